/- WindowTurned: for any two slots and numbers, the statement's call returns true and leaves its arguments alone. -/
import Derived.Test.YtlmbffnmjfbglaaX3
import Derived.IntWalk
import Derived.Deep.RegionHeld3
import Derived.Deep.DeepCutAuto
namespace Go.Proofs.Ytlmbffnmjfbglaa
open Go.ChangeShapes Go.WideShapes Go.ChangeAt Go.RowKit

theorem nameK {Q : Exit → Act → World → Prop} {x : Exit} {a : Act} {w : World} (h : ∀ W0, W0 = w → Q x a W0) : Q x a w := h w rfl

/-- a block of three cells; a cell's value. -/
def Has (w : World) (B : Nat) : Prop := ∃ c0 c1 c2, Blk w B 23 #[c0, c1, c2]
def cellD (w : World) (p : Addr) : Value := (w.cell? p).getD undef
theorem Has.cell {w : World} {B : Nat} (h : Has w B) : (w.cell? ⟨B, 0, none⟩ = some (cellD w ⟨B, 0, none⟩) ∧ w.cell? ⟨B, 1, none⟩ = some (cellD w ⟨B, 1, none⟩) ∧ w.cell? ⟨B, 2, none⟩ = some (cellD w ⟨B, 2, none⟩)) ∧ w.frozen? ⟨B, 0, none⟩ = false ∧ w.frozen? ⟨B, 1, none⟩ = false ∧ w.frozen? ⟨B, 2, none⟩ = false := by
  obtain ⟨c0, c1, c2, hb⟩ := h
  have e0 : w.cell? ⟨B, 0, none⟩ = some c0 := hb.cell 0
  have e1 : w.cell? ⟨B, 1, none⟩ = some c1 := hb.cell 1
  have e2 : w.cell? ⟨B, 2, none⟩ = some c2 := hb.cell 2
  refine ⟨⟨?_, ?_, ?_⟩, hb.frozen 0, hb.frozen 1, hb.frozen 2⟩ <;> simp [cellD, e0, e1, e2]
/-- the boxes a, b and the two slots x, y. -/
structure TC (w : World) (a b : Slot) (Bx By : Nat) (W : World) : Prop where
  by_ : BY w a b W
  hx : Has W Bx
  hy : Has W By
  x0 : w.heap.size + 2 ≤ Bx
  y0 : w.heap.size + 2 ≤ By
abbrev TS (w : World) (a b : Slot) (Bx By : Nat) (W : World) : Prop :=
  TC w a b Bx By W ∧ W.cell? ⟨w.heap.size, 0, none⟩ = some (.int .i64 a.off) ∧ W.cell? ⟨w.heap.size, 1, none⟩ = some (.int .i64 a.per) ∧ W.cell? ⟨w.heap.size, 2, none⟩ = some (.int .i64 a.len) ∧
  W.cell? ⟨w.heap.size + 1, 0, none⟩ = some (.int .i64 b.off) ∧ W.cell? ⟨w.heap.size + 1, 1, none⟩ = some (.int .i64 b.per) ∧ W.cell? ⟨w.heap.size + 1, 2, none⟩ = some (.int .i64 b.len) ∧
  W.cell? ⟨Bx, 0, none⟩ = some (cellD W ⟨Bx, 0, none⟩) ∧ W.cell? ⟨Bx, 1, none⟩ = some (cellD W ⟨Bx, 1, none⟩) ∧ W.cell? ⟨Bx, 2, none⟩ = some (cellD W ⟨Bx, 2, none⟩) ∧ W.frozen? ⟨Bx, 0, none⟩ = false ∧ W.frozen? ⟨Bx, 1, none⟩ = false ∧ W.frozen? ⟨Bx, 2, none⟩ = false ∧
  W.cell? ⟨By, 0, none⟩ = some (cellD W ⟨By, 0, none⟩) ∧ W.cell? ⟨By, 1, none⟩ = some (cellD W ⟨By, 1, none⟩) ∧ W.cell? ⟨By, 2, none⟩ = some (cellD W ⟨By, 2, none⟩) ∧ W.frozen? ⟨By, 0, none⟩ = false ∧ W.frozen? ⟨By, 1, none⟩ = false ∧ W.frozen? ⟨By, 2, none⟩ = false
section
variable {w : World} {a b : Slot} {Bx By : Nat} {W W' : World}
theorem TC.s (h : TC w a b Bx By W) : TS w a b Bx By W := by
  obtain ⟨⟨c0, c1, c2⟩, d0, d1, d2⟩ := h.by_.cells
  obtain ⟨⟨e0, e1, e2⟩, e3, e4, e5⟩ := h.hx.cell
  obtain ⟨⟨f0, f1, f2⟩, f3, f4, f5⟩ := h.hy.cell
  exact ⟨h, c0, c1, c2, d0, d1, d2, e0, e1, e2, e3, e4, e5, f0, f1, f2, f3, f4, f5⟩
theorem Has.below (h : Has W Bx) (hb : Below W.heap.size W W') : Has W' Bx := by obtain ⟨c0, c1, c2, hk⟩ := h; exact ⟨c0, c1, c2, hk.below hb hk.lt⟩
theorem TC.next (h : TC w a b Bx By W) (hb : Below W.heap.size W W') : TC w a b Bx By W' := ⟨h.by_.next hb, h.hx.below hb, h.hy.below hb, h.x0, h.y0⟩
theorem Has.set {g i : Nat} {v : Value} (h : Has W Bx) : Has (W.setCell ⟨g, i, none⟩ v) Bx := by
  obtain ⟨c0, c1, c2, hk⟩ := h
  by_cases e : Bx = g
  · subst e
    have h2 := hk.set_ i v
    match i, h2 with
    | 0, h2 => exact ⟨v, c1, c2, h2⟩
    | 1, h2 => exact ⟨c0, v, c2, h2⟩
    | 2, h2 => exact ⟨c0, c1, v, h2⟩
    | i + 3, h2 => exact ⟨c0, c1, c2, by simpa using h2⟩
  · exact ⟨c0, c1, c2, hk.far (p := ⟨g, i, none⟩) e v⟩
theorem TC.set {g i : Nat} {v : Value} (h : TC w a b Bx By W) (hg : w.heap.size + 2 ≤ g) : TC w a b Bx By (W.setCell ⟨g, i, none⟩ v) :=
  ⟨⟨h.by_.ba.far (p := ⟨g, i, none⟩) (by simp; omega) v, h.by_.bb.far (p := ⟨g, i, none⟩) (by simp; omega) v, h.by_.hb.setCell (p := ⟨g, i, none⟩) (by simp; omega) v⟩, h.hx.set, h.hy.set, h.x0, h.y0⟩
theorem TS.drew (h : TC w a b Bx By W) : TS w a b Bx By W.drew := (h.next (below_drewN (Below.refl _ _) 1)).s
theorem TS.next (hb : Below W.heap.size W W') (h : TC w a b Bx By W) : TS w a b Bx By W' := (h.next hb).s
theorem TS.set3x {u v x : Value} (h : TC w a b Bx By W) : TS w a b Bx By (((W.setCell ⟨Bx, 0, none⟩ u).setCell ⟨Bx, 1, none⟩ v).setCell ⟨Bx, 2, none⟩ x) := (((h.set h.x0).set h.x0).set h.x0).s
theorem TS.set3y {u v x : Value} (h : TC w a b Bx By W) : TS w a b Bx By (((W.setCell ⟨By, 0, none⟩ u).setCell ⟨By, 1, none⟩ v).setCell ⟨By, 2, none⟩ x) := (((h.set h.y0).set h.y0).set h.y0).s
end

theorem mul_in {f x : Int} (h1 : 1 ≤ f) (h2 : f ≤ 50) (h3 : 0 ≤ x) (h4 : x ≤ 2000) : IntKind.i64.wrap (f * x) = f * x := by
  have h5 := Int.mul_nonneg (show 0 ≤ f by omega) h3
  have h6 := Int.mul_le_mul h2 h4 h3 (by omega)
  generalize f * x = z at *
  exact IntWalk.i64_in _ (by omega)
theorem mul_in7 {f x : Int} (h1 : 1 ≤ f) (h2 : f ≤ 50) (h3 : 0 ≤ x) (h4 : x ≤ 5000000) : IntKind.i64.wrap (f * x) = f * x := by
  have h5 := Int.mul_nonneg (show 0 ≤ f by omega) h3
  have h6 := Int.mul_le_mul h2 h4 h3 (by omega)
  generalize f * x = z at *
  exact IntWalk.i64_in _ (by omega)
theorem meetV_bd {a b : Slot} {q : Int × Bool} (h : MeetV a b q) : 0 ≤ q.1 ∧ q.1 ≤ 5000000 := by
  rcases h with ⟨rfl, _⟩ | ⟨_, ha, hb, hM⟩
  · simp
  · obtain ⟨a1, a2, a3, a4, a5, a6⟩ := ha
    obtain ⟨b1, b2, b3, b4, b5, b6⟩ := hb
    have hl := hM.lt ⟨a1, a2, a3, a4, a5, a6⟩ ⟨b1, b2, b3, b4, b5, b6⟩ (Int.mul_pos (by omega) (by omega)) (Int.dvd_mul_right a.per b.per) (Int.dvd_mul_left a.per b.per)
    have hpp : a.per * b.per ≤ 2000 * 2000 := Int.mul_le_mul a2 b2 (by omega) (by omega)
    have h0 := hM.nonneg
    omega
/-- the boxes and the two slots with what they hold. -/
structure TX (w : World) (a b : Slot) (Bx By : Nat) (x y : Slot) (W : World) : Prop where
  tc : TC w a b Bx By W
  hx : Blk W Bx 23 #[.int .i64 x.off, .int .i64 x.per, .int .i64 x.len]
  hy : Blk W By 23 #[.int .i64 y.off, .int .i64 y.per, .int .i64 y.len]
section
variable {w : World} {a b x y : Slot} {Bx By : Nat} {W W' : World}
theorem TX.next (h : TX w a b Bx By x y W) (hb : Below W.heap.size W W') : TX w a b Bx By x y W' := ⟨h.tc.next hb, h.hx.below hb h.hx.lt, h.hy.below hb h.hy.lt⟩
theorem TX.cells (h : TX w a b Bx By x y W) : (W.cell? ⟨Bx, 0, none⟩ = some (.int .i64 x.off) ∧ W.cell? ⟨Bx, 1, none⟩ = some (.int .i64 x.per) ∧ W.cell? ⟨Bx, 2, none⟩ = some (.int .i64 x.len)) ∧ (W.cell? ⟨By, 0, none⟩ = some (.int .i64 y.off) ∧ W.cell? ⟨By, 1, none⟩ = some (.int .i64 y.per) ∧ W.cell? ⟨By, 2, none⟩ = some (.int .i64 y.len)) := ⟨⟨h.hx.cell 0, h.hx.cell 1, h.hx.cell 2⟩, h.hy.cell 0, h.hy.cell 1, h.hy.cell 2⟩
theorem TX.first {a' b' : Slot} {k : Int} (hX : BY w a' b' W) (hx : Blk W Bx 23 #[.int .i64 a.off, .int .i64 a.per, .int .i64 a.len]) (hy : Blk W By 23 #[.int .i64 b.off, .int .i64 b.per, .int .i64 b.len]) (hxy : Bx ≠ By) (h0 : w.heap.size + 2 ≤ Bx) (h1 : w.heap.size + 2 ≤ By) :
    TX w a' b' Bx By (a.move k) (b.move k) ((W.setCell ⟨Bx, 0, none⟩ (.int .i64 (a.off + k))).setCell ⟨By, 0, none⟩ (.int .i64 (b.off + k))) :=
  ⟨((TC.mk hX ⟨_, _, _, hx⟩ ⟨_, _, _, hy⟩ h0 h1).set h0).set h1, (hx.set_ 0 _).far (p := ⟨By, 0, none⟩) hxy _, (hy.far (p := ⟨Bx, 0, none⟩) (Ne.symm hxy) _).set_ 0 _⟩
end

theorem TX.second {w : World} {a b : Slot} {Bx By : Nat} {W : World} {f : Int} (h : TC w a b Bx By W) (hxy : Bx ≠ By) :
    TX w a b Bx By (a.scale f) (b.scale f) ((((((W.setCell ⟨Bx, 0, none⟩ (.int .i64 (f * a.off))).setCell ⟨Bx, 1, none⟩ (.int .i64 (f * a.per))).setCell ⟨Bx, 2, none⟩ (.int .i64 (f * a.len))).setCell ⟨By, 0, none⟩ (.int .i64 (f * b.off))).setCell ⟨By, 1, none⟩ (.int .i64 (f * b.per))).setCell ⟨By, 2, none⟩ (.int .i64 (f * b.len))) := by
  refine ⟨(TS.set3y (TS.set3x h).1).1, ?_, ?_⟩
  · obtain ⟨c0, c1, c2, hk⟩ := h.hx
    exact (((((hk.set_ 0 _).set_ 1 _).set_ 2 _).far (p := ⟨By, 0, none⟩) hxy _).far (p := ⟨By, 1, none⟩) hxy _).far (p := ⟨By, 2, none⟩) hxy _
  · obtain ⟨c0, c1, c2, hk⟩ := h.hy
    have hn := Ne.symm hxy
    exact (((((hk.far (p := ⟨Bx, 0, none⟩) hn _).far (p := ⟨Bx, 1, none⟩) hn _).far (p := ⟨Bx, 2, none⟩) hn _).set_ 0 _).set_ 1 _).set_ 2 _

theorem TX.new1 {w : World} {a b : Slot} {W : World} (h : BY w a b W) : TX w a b W.heap.size (W.heap.size + 1) a b ((W.alloc (.cells #[.int .i64 a.off, .int .i64 a.per, .int .i64 a.len] 23)).alloc (.cells #[.int .i64 b.off, .int .i64 b.per, .int .i64 b.len] 23)).drew ∧ W.heap.size ≠ W.heap.size + 1 := by
  have hx : Blk ((W.alloc (.cells #[.int .i64 a.off, .int .i64 a.per, .int .i64 a.len] 23)).alloc (.cells #[.int .i64 b.off, .int .i64 b.per, .int .i64 b.len] 23)).drew W.heap.size 23 #[.int .i64 a.off, .int .i64 a.per, .int .i64 a.len] := (Blk.new _ _ _).alloc _
  have hy : Blk ((W.alloc (.cells #[.int .i64 a.off, .int .i64 a.per, .int .i64 a.len] 23)).alloc (.cells #[.int .i64 b.off, .int .i64 b.per, .int .i64 b.len] 23)).drew (W.heap.size + 1) 23 #[.int .i64 b.off, .int .i64 b.per, .int .i64 b.len] := by
    have := Blk.new (W.alloc (.cells #[.int .i64 a.off, .int .i64 a.per, .int .i64 a.len] 23)) 23 #[.int .i64 b.off, .int .i64 b.per, .int .i64 b.len]
    rw [World.size_alloc] at this; exact this
  have z := h.bb.lt
  exact ⟨⟨⟨((h.next ((Below.refl _ _).alloc (Nat.le_refl _) _)).next ((Below.refl _ _).alloc (Nat.le_refl _) _)).drewN 1, ⟨_, _, _, hx⟩, ⟨_, _, _, hy⟩, by omega, by omega⟩, hx, hy⟩, by omega⟩
theorem TX.new2 {w : World} {a b : Slot} {W : World} (h : BY w a b W) : TX w a b (W.heap.size + 1) W.heap.size a b ((W.alloc (.cells #[.int .i64 b.off, .int .i64 b.per, .int .i64 b.len] 23)).alloc (.cells #[.int .i64 a.off, .int .i64 a.per, .int .i64 a.len] 23)).drew ∧ W.heap.size + 1 ≠ W.heap.size := by
  have hx : Blk ((W.alloc (.cells #[.int .i64 b.off, .int .i64 b.per, .int .i64 b.len] 23)).alloc (.cells #[.int .i64 a.off, .int .i64 a.per, .int .i64 a.len] 23)).drew W.heap.size 23 #[.int .i64 b.off, .int .i64 b.per, .int .i64 b.len] := (Blk.new _ _ _).alloc _
  have hy : Blk ((W.alloc (.cells #[.int .i64 b.off, .int .i64 b.per, .int .i64 b.len] 23)).alloc (.cells #[.int .i64 a.off, .int .i64 a.per, .int .i64 a.len] 23)).drew (W.heap.size + 1) 23 #[.int .i64 a.off, .int .i64 a.per, .int .i64 a.len] := by
    have := Blk.new (W.alloc (.cells #[.int .i64 b.off, .int .i64 b.per, .int .i64 b.len] 23)) 23 #[.int .i64 a.off, .int .i64 a.per, .int .i64 a.len]
    rw [World.size_alloc] at this; exact this
  have z := h.bb.lt
  exact ⟨⟨⟨((h.next ((Below.refl _ _).alloc (Nat.le_refl _) _)).next ((Below.refl _ _).alloc (Nat.le_refl _) _)).drewN 1, ⟨_, _, _, hy⟩, ⟨_, _, _, hx⟩, by omega, by omega⟩, hy, hx⟩, by omega⟩

set_option maxRecDepth 100000 in
set_option maxHeartbeats 4000000 in
theorem turned_walk (a b : Slot) (more factor : Int) (w : World) :
    Calls Try.prog 6 #[.agg #[.int .i64 a.off, .int .i64 a.per, .int .i64 a.len], .agg #[.int .i64 b.off, .int .i64 b.per, .int .i64 b.len], .int .i64 more, .int .i64 factor] w fun e w' => e = .returned (.bool true) ∧ Below w.heap.size w w' := by
  have haw := fun W => awake_c W
  obtain ⟨q, hq⟩ := meet_ex a b
  have hme := fun W => meet_c a b q hq W
  have hmf := fun W => meet_c b a q (meetV_comm hq) W
  have hdj := fun W => disj_c a b W
  have hdk := fun W => disj_c b a W
  rw [disjB_comm] at hdk
  have hva := fun W => valid_c a W
  have hvb := fun W => valid_c b W
  have h0 := BY.start w a b
  have hp1 := fun W => pick_c more 50 W (by omega) (by omega)
  have hp2 := fun W => pick_c factor 50 W (by omega) (by omega)
  have k0 := Int.emod_nonneg more (show (50 : Int) ≠ 0 by omega)
  have k1 := Int.emod_lt_of_pos more (show (0 : Int) < 50 by omega)
  have f0 := Int.emod_nonneg factor (show (50 : Int) ≠ 0 by omega)
  have f1 := Int.emod_lt_of_pos factor (show (0 : Int) < 50 by omega)
  generalize more % 50 = k at *
  generalize factor % 50 = f' at *
  have Hq := Lib.hid hq
  have E7 : Hid (IntKind.i64.wrap ((1 + f') * q.1) = (1 + f') * q.1) := mul_in7 (by omega) (by omega) (meetV_bd hq).1 (meetV_bd hq).2
  clear hq
  have hmove : a.ok → b.ok → (a.move k).ok → (b.move k).ok → disjB (a.move k) (b.move k) = disjB a b := disj_move
  have hscale : a.ok → b.ok → (a.scale (1 + f')).ok → (b.scale (1 + f')).ok → MeetV (a.scale (1 + f')) (b.scale (1 + f')) ((1 + f') * q.1, q.2) ∧ disjB (a.scale (1 + f')) (b.scale (1 + f')) = disjB a b := fun h1 h2 h3 h4 => ⟨meetV_scale h1 h2 (by omega) h3 h4 Hq.out, disj_scale h1 h2 (by omega) h3 h4⟩
  have Hmove := Lib.hid hmove
  have Hscale := Lib.hid hscale
  clear hmove hscale Hq
  generalize disjB a b = dj at *
  obtain ⟨q1, q2⟩ := q
  simp only at *
  have t1 : (dj != dj) = false := by simp
  have t2 : (q1 != q1) = false := by simp
  have t3 : (q2 != q2) = false := by simp
  go_enter Try.func6, Try.ntmps6
  go_wp2_with fail
  generalize (w.alloc (.cells #[.int .i64 a.off, .int .i64 a.per, .int .i64 a.len] 23)).alloc (.cells #[.int .i64 b.off, .int .i64 b.per, .int .i64 b.len] 23) = W0 at h0 ⊢
  refine (haw W0).mono ?_
  rintro e W1 ⟨rfl, hb1⟩
  have h1 := h0.next hb1
  clear h0 hb1 haw
  obtain ⟨⟨c0, c1, c2⟩, d0, d1, d2⟩ := h1.cells
  go_wp2_with fail
  refine (hdj W1).mono ?_
  rintro e W2 ⟨rfl, hb2⟩
  have h2 := h1.next hb2
  clear h1 hb2 hdj c0 c1 c2 d0 d1 d2
  obtain ⟨⟨c0, c1, c2⟩, d0, d1, d2⟩ := h2.cells
  go_wp2_with fail
  refine (hme W2).mono ?_
  rintro e W3 ⟨rfl, hb3⟩
  have h3 := h2.next hb3
  clear h2 hb3 hme c0 c1 c2 d0 d1 d2
  obtain ⟨⟨c0, c1, c2⟩, d0, d1, d2⟩ := h3.cells
  go_wp2_with fail
  refine (hmf W3).mono ?_
  rintro e W4 ⟨rfl, hb4⟩
  have h4 := h3.next hb4
  clear h3 hb4 hmf c0 c1 c2 d0 d1 d2
  obtain ⟨⟨c0, c1, c2⟩, d0, d1, d2⟩ := h4.cells
  go_wp2_with fail
  refine (hdk W4).mono ?_
  rintro e W5 ⟨rfl, hb5⟩
  have h5 := h4.next hb5
  clear h4 hb5 hdk c0 c1 c2 d0 d1 d2
  obtain ⟨⟨c0, c1, c2⟩, d0, d1, d2⟩ := h5.cells
  go_wp2_with fail
  cases hA : validS a with
  | false =>
    rw [hA] at hva
    clear hA
    refine (hva W5).mono ?_
    rintro e W6 ⟨rfl, hb6⟩
    have hB := (h5.next hb6).hb
    clear h5 hb6 hva hvb c0 c1 c2 d0 d1 d2
    go_wp2
    go_ret
    exact ⟨rfl, hB⟩
  | true =>
  have ha := ok_of hA
  rw [hA] at hva
  clear hA
  refine (hva W5).mono ?_
  rintro e W6 ⟨rfl, hb6⟩
  have h6 := h5.next hb6
  clear h5 hb6 hva c0 c1 c2 d0 d1 d2
  obtain ⟨⟨c0, c1, c2⟩, d0, d1, d2⟩ := h6.cells
  go_wp2_with fail
  cases hBB : validS b with
  | false =>
    rw [hBB] at hvb
    clear hBB
    refine (hvb W6).mono ?_
    rintro e W7 ⟨rfl, hb7⟩
    have hB := (h6.next hb7).hb
    clear h6 hb7 hvb c0 c1 c2 d0 d1 d2
    go_wp2
    go_ret
    exact ⟨rfl, hB⟩
  | true =>
  have hb := ok_of hBB
  rw [hBB] at hvb
  clear hBB
  refine (hvb W6).mono ?_
  rintro e W7 ⟨rfl, hb7⟩
  have h7 := h6.next hb7
  clear h6 hb7 hvb c0 c1 c2 d0 d1 d2
  have Hmv := Lib.hid (Hmove.out ha hb)
  have Hsc := Lib.hid (Hscale.out ha hb)
  clear Hmove Hscale
  obtain ⟨a1, a2, a3, a4, a5, a6⟩ := ha
  obtain ⟨b1, b2, b3, b4, b5, b6⟩ := hb
  go_wp2_with fail
  refine (hp1 W7).mono ?_
  rintro e W8 ⟨rfl, rfl⟩
  go_wp2_with fail
  refine (hp2 W7).mono ?_
  rintro e W8 ⟨rfl, rfl⟩
  clear hp1 hp2
  obtain ⟨⟨c0, c1, c2⟩, d0, d1, d2⟩ := h7.cells
  have z1 := h7.ba.lt
  have z2 := h7.bb.lt
  have n0 := World.new_ne W7 ⟨w.heap.size, 0, none⟩ c0
  go_upto_region 11 with fail
  go_cut [16, 17] (fun x y wc => ∃ Bx By, x = .pointer (some ⟨Bx, 0, none⟩) ∧ y = .pointer (some ⟨By, 0, none⟩) ∧ TX w a b Bx By a b wc ∧ Bx ≠ By)
  case first =>
    go_region
    all_goals
      go_wp2_with fail
      go_meet
      first | exact ⟨_, _, rfl, rfl, TX.new1 h7⟩ | exact ⟨_, _, rfl, rfl, TX.new2 h7⟩
  case rest =>
    obtain ⟨Bx, By, rfl, rfl, hX8, hxy⟩ := hcut
    clear c0 c1 c2 d0 d1 d2 n0 h7
    generalize wc = W8 at *
    obtain ⟨⟨x0, x1, x2⟩, y0, y1, y2⟩ := hX8.cells
    have xf := hX8.hx.frozen 0
    have yf := hX8.hy.frozen 0
    have hsx := TX.first (k := k) hX8.tc.by_ hX8.hx hX8.hy hxy hX8.tc.x0 hX8.tc.y0
    clear z1 z2
    go_upto_region 14 with fail
    go_cut [89] (fun s wc => s = .bool false ∧ TX w a b Bx By (a.move k) (b.move k) wc)
    case first =>
      have hvx : ∀ W, Calls Try.prog 22 #[.agg #[.int .i64 (a.off + k), .int .i64 a.per, .int .i64 a.len]] W fun e w' => e = .returned (.bool (validS (a.move k))) ∧ Below W.heap.size W w' := fun W => valid_c (a.move k) W
      have hvy : ∀ W, Calls Try.prog 22 #[.agg #[.int .i64 (b.off + k), .int .i64 b.per, .int .i64 b.len]] W fun e w' => e = .returned (.bool (validS (b.move k))) ∧ Below W.heap.size W w' := fun W => valid_c (b.move k) W
      have hdx : ∀ W, Calls Try.prog 20 #[.agg #[.int .i64 (a.off + k), .int .i64 a.per, .int .i64 a.len], .agg #[.int .i64 (b.off + k), .int .i64 b.per, .int .i64 b.len]] W fun e w' => e = .returned (.bool (disjB (a.move k) (b.move k))) ∧ Below W.heap.size W w' := fun W => disj_c (a.move k) (b.move k) W
      have h9 := hsx
      generalize (W8.setCell ⟨Bx, 0, none⟩ (.int .i64 (a.off + k))).setCell ⟨By, 0, none⟩ (.int .i64 (b.off + k)) = W9 at h9 ⊢
      clear x0 x1 x2 y0 y1 y2 xf yf hX8 hsx Hsc E7
      obtain ⟨⟨x0, x1, x2⟩, y0, y1, y2⟩ := h9.cells
      simp only [Slot.move] at x0 x1 x2 y0 y1 y2
      go_wp2_with fail
      cases hA : validS (a.move k) with
      | false =>
        rw [hA] at hvx
        clear hA Hmv hvy hdx
        refine (hvx W9).mono ?_
        rintro e W10 ⟨rfl, hb⟩
        have h10 := h9.next hb
        clear h9 hb hvx
        go_wp2_with fail
        go_meet
        exact ⟨rfl, h10⟩
      | true =>
        have hm := Lib.hid (ok_of hA)
        rw [hA] at hvx
        clear hA
        refine (hvx W9).mono ?_
        rintro e W9' ⟨rfl, hb⟩
        have h9' := h9.next hb
        clear h9 hb hvx x0 x1 x2 y0 y1 y2
        obtain ⟨⟨x0, x1, x2⟩, y0, y1, y2⟩ := h9'.cells
        simp only [Slot.move] at x0 x1 x2 y0 y1 y2
        go_wp2_with fail
        cases hBy : validS (b.move k) with
        | false =>
          rw [hBy] at hvy
          clear hBy Hmv hdx hm
          refine (hvy W9').mono ?_
          rintro e W10 ⟨rfl, hb⟩
          have h10 := h9'.next hb
          clear h9' hb hvy x0 x1 x2 y0 y1 y2
          go_wp2_with fail
          go_meet
          exact ⟨rfl, h10⟩
        | true =>
          have e8 := Hmv.out hm.out (ok_of hBy)
          rw [hBy] at hvy
          rw [e8] at hdx
          clear hBy Hmv hm e8
          refine (hvy W9').mono ?_
          rintro e W9a ⟨rfl, hb⟩
          have h9a := h9'.next hb
          clear h9' hb hvy x0 x1 x2 y0 y1 y2
          obtain ⟨⟨x0, x1, x2⟩, y0, y1, y2⟩ := h9a.cells
          simp only [Slot.move] at x0 x1 x2 y0 y1 y2
          go_wp2_with fail
          refine (hdx W9a).mono ?_
          rintro e W10 ⟨rfl, hb⟩
          have h10 := h9a.next hb
          clear h9a hb hdx x0 x1 x2 y0 y1 y2
          go_wp2_with fail
          go_meet
          exact ⟨rfl, h10⟩
    case rest =>
    obtain ⟨rfl, h10⟩ := hcut
    clear x0 x1 x2 y0 y1 y2 xf yf hX8 hsx Hmv
    generalize wc = W10 at *
    have e1 := mul_in (f := 1 + f') (x := a.off) (by omega) (by omega) (by omega) (by omega)
    have e2 := mul_in (f := 1 + f') (x := a.per) (by omega) (by omega) (by omega) (by omega)
    have e3 := mul_in (f := 1 + f') (x := a.len) (by omega) (by omega) (by omega) (by omega)
    have e4 := mul_in (f := 1 + f') (x := b.off) (by omega) (by omega) (by omega) (by omega)
    have e5 := mul_in (f := 1 + f') (x := b.per) (by omega) (by omega) (by omega) (by omega)
    have e6 := mul_in (f := 1 + f') (x := b.len) (by omega) (by omega) (by omega) (by omega)
    have E := Lib.hid (And.intro e1 (And.intro e2 (And.intro e3 (And.intro e4 (And.intro e5 e6)))))
    clear e1 e2 e3 e4 e5 e6
    have hzx := h10.tc.x0
    have hzy := h10.tc.y0
    go_wp2_with fail
    obtain ⟨e1, e2, e3, e4, e5, e6⟩ := E.out
    have hsl := slot_c
    have hT := TS.drew h10.tc
    have hs := h10.tc.s
    generalize 1 + f' = f at *
    obtain ⟨-, c0, c1, c2, c3, c4, c5, c6, c7, c8, c9, c10, c11, c12, c13, c14, c15, c16, c17⟩ := hs
    go_region_held3 (fun w' => TC w a b Bx By w' ∧ w'.cell? ⟨w.heap.size, 0, none⟩ = some (.int .i64 a.off) ∧ w'.cell? ⟨w.heap.size, 1, none⟩ = some (.int .i64 a.per) ∧ w'.cell? ⟨w.heap.size, 2, none⟩ = some (.int .i64 a.len) ∧ w'.cell? ⟨w.heap.size + 1, 0, none⟩ = some (.int .i64 b.off) ∧ w'.cell? ⟨w.heap.size + 1, 1, none⟩ = some (.int .i64 b.per) ∧ w'.cell? ⟨w.heap.size + 1, 2, none⟩ = some (.int .i64 b.len) ∧ w'.cell? ⟨Bx, 0, none⟩ = some (cellD w' ⟨Bx, 0, none⟩) ∧ w'.cell? ⟨Bx, 1, none⟩ = some (cellD w' ⟨Bx, 1, none⟩) ∧ w'.cell? ⟨Bx, 2, none⟩ = some (cellD w' ⟨Bx, 2, none⟩) ∧ w'.frozen? ⟨Bx, 0, none⟩ = false ∧ w'.frozen? ⟨Bx, 1, none⟩ = false ∧ w'.frozen? ⟨Bx, 2, none⟩ = false ∧ w'.cell? ⟨By, 0, none⟩ = some (cellD w' ⟨By, 0, none⟩) ∧ w'.cell? ⟨By, 1, none⟩ = some (cellD w' ⟨By, 1, none⟩) ∧ w'.cell? ⟨By, 2, none⟩ = some (cellD w' ⟨By, 2, none⟩) ∧ w'.frozen? ⟨By, 0, none⟩ = false ∧ w'.frozen? ⟨By, 1, none⟩ = false ∧ w'.frozen? ⟨By, 2, none⟩ = false) (first | with_reducible exact hT | with_reducible exact TS.set3x hT.1 | with_reducible exact TS.set3y (TS.set3x hT.1).1) (first | ((go_at_call 26; refine (slot_c _ _ _ _).mono ?_; rintro e w' ⟨rfl, hb'⟩; have hT := TS.next hb' hT.1)))
    have hX := TX.second (f := f) hT.1 hxy
    clear hT c0 c1 c2 c3 c4 c5 c6 c7 c8 c9 c10 c11 c12 c13 c14 c15 c16 c17 e1 e2 e3 e4 e5 e6 E
    refine nameK fun W11 hW => ?_
    rw [← hW] at hX
    clear hW h10 hzx hzy
    have hvx : ∀ W, Calls Try.prog 22 #[.agg #[.int .i64 (f * a.off), .int .i64 (f * a.per), .int .i64 (f * a.len)]] W fun e w' => e = .returned (.bool (validS (a.scale f))) ∧ Below W.heap.size W w' := fun W => valid_c (a.scale f) W
    have hvy : ∀ W, Calls Try.prog 22 #[.agg #[.int .i64 (f * b.off), .int .i64 (f * b.per), .int .i64 (f * b.len)]] W fun e w' => e = .returned (.bool (validS (b.scale f))) ∧ Below W.heap.size W w' := fun W => valid_c (b.scale f) W
    obtain ⟨⟨x0, x1, x2⟩, y0, y1, y2⟩ := hX.cells
    simp only [Slot.scale] at x0 x1 x2 y0 y1 y2
    go_wp2_with fail
    cases hA : validS (a.scale f) with
    | false =>
      rw [hA] at hvx
      refine (hvx W11).mono ?_
      rintro e W12 ⟨rfl, hb⟩
      have hB := (hX.next hb).tc.by_.hb
      clear hX hb hvx hvy x0 x1 x2 y0 y1 y2 hA
      go_wp2
      go_ret
      exact ⟨rfl, hB⟩
    | true =>
    have hax := Lib.hid (ok_of hA)
    rw [hA] at hvx
    clear hA
    refine (hvx W11).mono ?_
    rintro e W12 ⟨rfl, hb⟩
    have hX2 := hX.next hb
    clear hX hb hvx x0 x1 x2 y0 y1 y2
    obtain ⟨⟨x0, x1, x2⟩, y0, y1, y2⟩ := hX2.cells
    simp only [Slot.scale] at x0 x1 x2 y0 y1 y2
    go_wp2_with fail
    cases hBy : validS (b.scale f) with
    | false =>
      rw [hBy] at hvy
      refine (hvy W12).mono ?_
      rintro e W13 ⟨rfl, hb⟩
      have hB := (hX2.next hb).tc.by_.hb
      clear hX2 hb hvy x0 x1 x2 y0 y1 y2 hBy
      go_wp2
      go_ret
      exact ⟨rfl, hB⟩
    | true =>
    obtain ⟨hM, hD⟩ := Hsc.out hax.out (ok_of hBy)
    rw [hBy] at hvy
    clear hBy Hsc hax
    have hmx : ∀ W, Calls Try.prog 21 #[.agg #[.int .i64 (f * a.off), .int .i64 (f * a.per), .int .i64 (f * a.len)], .agg #[.int .i64 (f * b.off), .int .i64 (f * b.per), .int .i64 (f * b.len)]] W fun e w' => e = .returned (.tuple #[.int .i64 (f * q1), .bool q2]) ∧ Below W.heap.size W w' := fun W => meet_c (a.scale f) (b.scale f) (f * q1, q2) hM W
    have hdx : ∀ W, Calls Try.prog 20 #[.agg #[.int .i64 (f * a.off), .int .i64 (f * a.per), .int .i64 (f * a.len)], .agg #[.int .i64 (f * b.off), .int .i64 (f * b.per), .int .i64 (f * b.len)]] W fun e w' => e = .returned (.bool dj) ∧ Below W.heap.size W w' := by
      have := fun W => disj_c (a.scale f) (b.scale f) W
      rw [hD] at this
      exact this
    clear hM hD
    refine (hvy W12).mono ?_
    rintro e W13 ⟨rfl, hb⟩
    have hX3 := hX2.next hb
    clear hX2 hb hvy x0 x1 x2 y0 y1 y2
    obtain ⟨⟨x0, x1, x2⟩, y0, y1, y2⟩ := hX3.cells
    simp only [Slot.scale] at x0 x1 x2 y0 y1 y2
    go_wp2_with fail
    refine (hmx W13).mono ?_
    rintro e W14 ⟨rfl, hb⟩
    have hX4 := hX3.next hb
    clear hX3 hb hmx x0 x1 x2 y0 y1 y2
    obtain ⟨⟨x0, x1, x2⟩, y0, y1, y2⟩ := hX4.cells
    simp only [Slot.scale] at x0 x1 x2 y0 y1 y2
    go_wp2_with fail
    refine (hdx W14).mono ?_
    rintro e W15 ⟨rfl, hb⟩
    have hB := (hX4.next hb).tc.by_.hb
    clear hX4 hb hdx x0 x1 x2 y0 y1 y2
    have e7 := E7.out
    go_wp2
    go_ret
    exact ⟨rfl, hB⟩

-- THE ROW
set_option maxRecDepth 100000 in
theorem windowTurned_lifted (os : Os) (started : os.Started) (H : Type) (enc : TypeId × Value → H) :
    ReturnsInHanded {} Try.checked os 6 .any (Rows.windowTurnedSpec.pre6 enc Try.prog Try.f6 Rows.windowTurnedRow.domain false) (Rows.windowTurnedSpec.post enc Try.prog Try.f6 false true false false) := by
  refine returnsInHanded_of_change (C := Try.checked) own started (by kernel_rfl) Try.func6
    (ChangeSpec.witness6 (enc := enc) (C := Try.checked) false ⟨#[], #[.agg #[.int .i64 0, .int .i64 0, .int .i64 0], .agg #[.int .i64 0, .int .i64 0, .int .i64 0], .int .i64 0, .int .i64 0], []⟩ 8 (by kernel_rfl) (by kernel_rfl) (by kernel_rfl) (by kernel_rfl)) ?_
  intro W base args ds gs before hval0 hW hcnd _
  have hval : ∀ (j : Nat) t v, Try.f6.params[j]? = some t → args[j]? = some v → Value.okWide Try.prog W .any base t v := hval0
  have hW' := hW
  obtain ⟨p, q, hA0, hV, rfl, hfz, hnd⟩ := hW
  have hA : DataW.TrodAll enc Try.prog W 0 (fun _ => true) true Try.f6.params.toList args.toList ds p := hA0
  rw [Try.params6] at hA hval
  obtain ⟨v0, vs0, d0, ds0, p0, q0, hargs, rfl, rfl, h0, r0⟩ := trodAll_cons hA
  obtain ⟨v1, vs1, d1, ds1, p1, q1, rfl, rfl, rfl, h1, r1⟩ := trodAll_cons r0
  obtain ⟨v2, vs2, d2, ds2, p2, q2, rfl, rfl, rfl, h2, r2⟩ := trodAll_cons r1
  obtain ⟨v3, vs3, d3, ds3, p3, q3, rfl, rfl, rfl, h3, r3⟩ := trodAll_cons r2
  obtain ⟨rfl, rfl, rfl⟩ := trodAll_nil r3
  obtain rfl : args = #[v0, v1, v2, v3] := by cases args; simp_all
  obtain ⟨s0, rfl, hP0⟩ := open_slot (hval 0 23 v0 rfl rfl) h0
  obtain ⟨s1, rfl, hP1⟩ := open_slot (hval 1 23 v1 rfl rfl) h1
  obtain ⟨a2, rfl, rfl, rfl, w2⟩ := open_int Try.underlying3 (hval 2 3 v2 rfl rfl) h2
  obtain ⟨a3, rfl, rfl, rfl, w3⟩ := open_int Try.underlying3 (hval 3 3 v3 rfl rfl) h3
  clear hA0 hval0
  refine (turned_walk s0 s1 a2 a3 W).mono fun e W' ⟨he, hg⟩ => ?_
  subst he
  refine ⟨_, rfl, law_post (tb := 4) laid ?_ ?_ Try.underlying4 rfl hW' ⟨rfl, rfl, rfl⟩ hg⟩
  · rw [Try.params6]; intro t ht; simp at ht; rcases ht with rfl | rfl <;> exact ⟨by kernel_rfl, of_decide_eq_true (by kernel_rfl)⟩
  · kernel_rfl

theorem windowTurned_holds : Rows.WindowTurnedSaid :=
  OpenClaim.holds_of_wide 6 Try.f6 rfl rfl rfl rfl rfl rfl rfl ⟨rfl, rfl, rfl, rfl, rfl⟩ rfl rfl rfl rfl rfl (by kernel_rfl) Try.func6 (by kernel_rfl)
    (of_decide_eq_true (by kernel_rfl)) (by unfold Func.isWrapper; first | (rw [if_pos (by decide +kernel)]; kernel_rfl) | (rw [if_neg (by decide +kernel)]; exact ⟨rfl, rfl⟩))
    (fun os started H enc _ => windowTurned_lifted os started H enc)
#print axioms windowTurned_holds
end Go.Proofs.Ytlmbffnmjfbglaa
