/- PlanScaled: if all times of a module are multiplied by a number, plans remain plans, and a module without a plan whose lengths fill a frame still has none; of any module and number. -/
import Derived.Test.YtlmbffnmjfbglabL8
import Derived.Test.YtlmbffnmjfbglabM9
set_option linter.unusedSimpArgs false
set_option linter.unusedVariables false
namespace Go.Proofs.Ytlmbffnmjfbglab
open Go.ChangeShapes Go.WideShapes Go.ChangeAt Go.RowKit

theorem rdInt_owned {w : World} {base : Nat} {v : Value} {l : List Int} (h : w.ownsRow base 3 1 v l.length (l.map (Value.int .i64))) : ∃ A c, v = .slice A l.length c ∧ l.length ≤ c ∧ RdInt w w.heap.size A l := by
  rcases h.2 with ⟨rfl, h0⟩ | ⟨g, cap, cur, rfl, hb, hg, h1, h2, _⟩
  · exact ⟨none, 0, by rw [h0], by omega, fun hn => by omega⟩
  · refine ⟨_, cap, rfl, h1, fun hn => ⟨g, 0, rfl, (Array.getElem?_eq_some_iff.1 hg).1, fun i hi => ?_⟩⟩
    have := h.cells (g := g) rfl i (.int .i64 l[i]) (by simp [hi])
    rw [add_none] at this
    exact this
/-- the ticks of the first k partitions. -/
def loadTo (F : Int) (ps : List Part) (k : Nat) : Int := loadV F (ps.take k)
theorem loadTo_succ {F : Int} {ps : List Part} {k : Nat} (hk : k < ps.length) : loadTo F ps (k + 1) = loadTo F ps k + ps[k].length * (F / ps[k].period) := by
  unfold loadTo loadV
  rw [List.take_add_one, List.getElem?_eq_getElem hk, List.map_append, List.sum_append]
  simp
theorem loadTo_bd {F : Int} {ps : List Part} (hT : timesV F ps = true) : ∀ k, k ≤ ps.length → 0 ≤ loadTo F ps k ∧ loadTo F ps k ≤ k * 4000000 := by
  have h := timesV_ok hT
  have hf := h.frame
  intro k
  induction k with
  | zero => intro _; simp [loadTo, loadV]
  | succ k ih =>
    intro hk
    obtain ⟨a, b⟩ := ih (by omega)
    rw [loadTo_succ (by omega)]
    have hp := h.per ps[k] (List.getElem_mem _)
    have hl := h.len ps[k] (List.getElem_mem _)
    have h1 : 0 ≤ F / ps[k].period := Int.ediv_nonneg (by omega) (by omega)
    have h2 : F / ps[k].period ≤ F := Int.ediv_le_self _ (by omega)
    have h3 : 0 ≤ ps[k].length * (F / ps[k].period) := Int.mul_nonneg (by omega) h1
    have h4 : ps[k].length * (F / ps[k].period) ≤ 2000 * 2000 := Int.mul_le_mul (by omega) (by omega) h1 (by omega)
    omega

/-- the greater module: its box is the first block behind W2. -/
structure BR (W2 : World) (G : Int) (ls : List Part) (wr : World) (v : Value) : Prop where
  below : Below W2.heap.size W2 wr
  blk : Blk wr W2.heap.size 24 #[.string ⟨#[]⟩, .int .i64 0, .int .i64 G, v]
  own : wr.ownsRow (W2.heap.size + 1) 56 10 v ls.length (ls.flatMap Part.cells)
theorem BR.next {W2 wr wr' : World} {G : Int} {ls : List Part} {v : Value} (h : BR W2 G ls wr v) (hb : Below wr.heap.size wr wr') : BR W2 G ls wr' v :=
  ⟨h.below.trans (hb.mono h.below.size), h.blk.below hb h.blk.lt, h.own.kept (below_grown (row := none) hb) (by cases v.ownBlock <;> simp)⟩
theorem BR.push {W2 wr w' : World} {G : Int} {ls : List Part} {v V : Value} {p : Part} (h : BR W2 G ls wr v) (hgr : wr.grownBy w' v.ownBlock) (hown : w'.ownsRow (W2.heap.size + 1) 56 10 V (ls.length + 1) (ls.flatMap Part.cells ++ p.cells)) : BR W2 G (ls ++ [p]) (w'.setCell ⟨W2.heap.size, 3, none⟩ V) V := by
  have hne : V.ownBlock ≠ some W2.heap.size := fun e => by have := (hown.lt _ e).1; omega
  have hne2 : some W2.heap.size ≠ v.ownBlock := fun e => by have := (h.own.lt _ e.symm).1; omega
  refine ⟨(h.below.grown hgr h.below.size (fun k hk => by have := (h.own.lt k hk).1; omega)).setCell (p := ⟨W2.heap.size, 3, none⟩) (Nat.le_refl _) _, (h.blk.grown hgr hne2).set_ 3 V, ?_⟩
  have hgs : w'.grownBy (w'.setCell ⟨W2.heap.size, 3, none⟩ V) (some W2.heap.size) := ⟨rfl, rfl, rfl, by simp [World.setCell], fun k _ hk => Below.heap_setCell w' _ V k (fun e => hk (by rw [e]))⟩
  have := hown.kept hgs (.inr hne)
  simpa using this

section
set_option maxRecDepth 100000 in
set_option maxHeartbeats 4000000 in
theorem scaled_walk (name : ByteArray) (mem F : Int) (ps : List Part) (A : Option Addr) (c : Nat) (at_ : Int) (w : World) (h : RdPart w w.heap.size A ps) (hl : ps.length * 8 ≤ 140737488355328) :
    Calls Try.prog 9 #[.agg #[.string name, .int .i64 mem, .int .i64 F, .slice A ps.length c], .int .i64 at_] w fun e w' => e = .returned (.bool true) ∧ Below w.heap.size w w' := by
  have H := Lib.hid h
  clear h
  obtain ⟨i0, hi0', hz0', hz1', hz2'⟩ := info_parts info56
  have Hi := Lib.hid (And.intro hi0' (And.intro hz0' (And.intro hz1' hz2')))
  clear hi0' hz0' hz1' hz2'
  go_enter Try.func9, Try.ntmps9
  go_wp2_with fail
  refine nameC fun W0 hW0 => ?_
  have hB0 : Below w.heap.size w W0 := by subst hW0; exact (Below.refl _ w).alloc (Nat.le_refl _) _
  have hb0 : Blk W0 w.heap.size 24 #[.string name, .int .i64 mem, .int .i64 F, .slice A ps.length c] := by subst hW0; exact Blk.new w 24 _
  clear hW0
  refine (awake_c W0).mono ?_
  rintro e W1 ⟨rfl, hb1⟩
  have hB1 := hB0.trans (hb1.mono hB0.size)
  replace hb0 := hb0.below hb1 hb0.lt
  clear hb1 hB0
  obtain ⟨f, hf⟩ : ∃ f, f = at_ % 8 := ⟨_, rfl⟩
  have hf0 : 0 ≤ f := by rw [hf]; exact Int.emod_nonneg _ (by omega)
  have hf1 : f < 8 := by rw [hf]; exact Int.emod_lt_of_pos _ (by omega)
  have hpk := pick_c at_ 8 W1 (by omega) (by omega)
  rw [← hf] at hpk
  have Hpk := Lib.hid hpk
  clear hpk hf
  go_wp2_with fail
  refine Hpk.out.mono ?_
  rintro e W ⟨rfl, rfl⟩
  have q0 : W1.cell? ⟨w.heap.size, 0, none⟩ = some (.string name) := hb0.cell 0
  have q1 : W1.cell? ⟨w.heap.size, 1, none⟩ = some (.int .i64 mem) := hb0.cell 1
  have q2 : W1.cell? ⟨w.heap.size, 2, none⟩ = some (.int .i64 F) := hb0.cell 2
  have q3 : W1.cell? ⟨w.heap.size, 3, none⟩ = some (.slice A ps.length c) := hb0.cell 3
  have hch := choices_c name mem F ps A c W1 (H.out.below hB1) hl
  obtain ⟨N, hN⟩ : ∃ N, N = choicesV F ps := ⟨_, rfl⟩
  rw [← hN] at hch
  have HN := Lib.hid hN
  have Hch := Lib.hid hch
  have hfw := IntWalk.i64_in (1 + f) (by omega)
  clear hN hch Hpk
  go_wp2_with fail
  refine Hch.out.mono ?_
  rintro e W2 ⟨rfl, hb2⟩
  have hB2 := hB1.trans (hb2.mono hB1.size)
  replace hb0 := hb0.below hb2 hb0.lt
  clear hb2 hB1 Hch q0 q1 q2 q3
  by_cases hneg : N < 0
  · have hd : decide (N < 0) = true := decide_eq_true hneg
    clear HN
    go_wp2_with fail
    go_ret
    exact ⟨rfl, hB2⟩
  have hd : decide (N < 0) = false := decide_eq_false hneg
  obtain ⟨hT, hprod⟩ := choices_prod (F := F) (ps := ps) (by rw [← HN.out]; omega)
  have hFr := (timesV_ok hT).frame
  have hg1 : 1 ≤ 1 + f := by omega
  have hg8 : 1 + f ≤ 8 := by omega
  generalize hg : 1 + f = g at *
  have hgF : 0 ≤ g * F ∧ g * F ≤ 16000 := ⟨Int.mul_nonneg (by omega) (by omega), Int.mul_le_mul (c := 8) (d := 2000) hg8 hFr.2 (by omega) (by omega)⟩
  have hgw := IntWalk.i64_in (g * F) (by omega)
  have q0 : W2.cell? ⟨w.heap.size, 0, none⟩ = some (.string name) := hb0.cell 0
  have q1 : W2.cell? ⟨w.heap.size, 1, none⟩ = some (.int .i64 mem) := hb0.cell 1
  have q2 : W2.cell? ⟨w.heap.size, 2, none⟩ = some (.int .i64 F) := hb0.cell 2
  have q3 : W2.cell? ⟨w.heap.size, 3, none⟩ = some (.slice A ps.length c) := hb0.cell 3
  clear hg hf0 hf1 hfw
  by_cases hbig : 2000 < g * F
  · have hdb : decide (g * F > 2000) = true := decide_eq_true hbig
    clear hprod HN
    go_wp2_with fail
    go_ret
    exact ⟨rfl, hB2⟩
  have hdb : decide (g * F > 2000) = false := decide_eq_false hbig
  have hlaw := scaled_law hT hg1 (by omega)
  have hps6 : ps.length ≤ 6 := (timesV_ok hT).few
  have HT := Lib.hid hT
  have Hlaw := Lib.hid hlaw
  clear hprod hT hlaw HN
  obtain ⟨W3, hW3⟩ : ∃ W3, W3 = W2.alloc (.cells #[.string ⟨#[]⟩, .int .i64 0, .int .i64 (g * F), .slice none 0 0] 24) := ⟨_, rfl⟩
  have hBR0 : BR W2 (g * F) [] W3 (.slice none 0 0) := by
    rw [hW3]
    exact ⟨(Below.refl _ _).alloc (Nat.le_refl _) _, Blk.new W2 24 _, World.ownsRow_nil _ _ _ _⟩
  have Hb0 := Lib.hid hb0
  have HBR0 := Lib.hid hBR0
  have HW3 := Lib.hid hW3
  have HB2 := Lib.hid hB2
  clear hb0 hBR0 hW3 hB2
  go_wp2_with fail
  rw [← HW3.out]
  clear HW3 q0 q1 q2 q3
  go_loopw [7, 8] (fun ld i wr => ∃ k : Nat, k ≤ ps.length ∧ i = .int .i64 k ∧ ld = .int .i64 (loadTo F ps k) ∧ Hid (∃ v, BR W2 (g * F) ((ps.take k).map (scaleP g)) wr v)) (fun _ i _ => ps.length - (intOf i).toNat)
  case atStart => exact ⟨0, Nat.zero_le _, rfl, rfl, ⟨_, HBR0.out⟩⟩
  case round =>
    obtain ⟨k, hk, rfl, rfl, hBR⟩ := hrel
    obtain ⟨v, hBRv⟩ := hBR.out
    have hbr := Hb0.out.below hBRv.below Hb0.out.lt
    have q2 : wr.cell? ⟨w.heap.size, 2, none⟩ = some (.int .i64 F) := hbr.cell 2
    have q3 : wr.cell? ⟨w.heap.size, 3, none⟩ = some (.slice A ps.length c) := hbr.cell 3
    by_cases hlt : k < ps.length
    · have hBw := HB2.out.trans (hBRv.below.mono HB2.out.size)
      obtain ⟨b, o, rfl, hb, hcc⟩ := (H.out.below hBw) (by omega)
      have c0 : wr.cell? ⟨b, o + k * 10, none⟩ = some (.string ps[k].name) := hcc k hlt 0 _ rfl
      have c1 : wr.cell? ⟨b, o + k * 10 + 1, none⟩ = some (.int .i64 ps[k].period) := hcc k hlt 1 _ rfl
      have c2 : wr.cell? ⟨b, o + k * 10 + 2, none⟩ = some (.int .i64 ps[k].length) := hcc k hlt 2 _ rfl
      have c3 : wr.cell? ⟨b, o + k * 10 + 3, none⟩ = some (.int .i64 ps[k].mem) := hcc k hlt 3 _ rfl
      have c4 : wr.cell? ⟨b, o + k * 10 + 4, none⟩ = some (.slice ps[k].semas.a ps[k].semas.n ps[k].semas.c) := hcc k hlt 4 _ rfl
      have c5 : wr.cell? ⟨b, o + k * 10 + 5, none⟩ = some (.int .i64 ps[k].events) := hcc k hlt 5 _ rfl
      have c6 : wr.cell? ⟨b, o + k * 10 + 6, none⟩ = some (.int .i64 ps[k].boards) := hcc k hlt 6 _ rfl
      have c7 : wr.cell? ⟨b, o + k * 10 + 7, none⟩ = some (.slice ps[k].bufs.a ps[k].bufs.n ps[k].bufs.c) := hcc k hlt 7 _ rfl
      have c8 : wr.cell? ⟨b, o + k * 10 + 8, none⟩ = some (.slice ps[k].ports.a ps[k].ports.n ps[k].ports.c) := hcc k hlt 8 _ rfl
      have c9 : wr.cell? ⟨b, o + k * 10 + 9, none⟩ = some (.slice ps[k].procs.a ps[k].procs.n ps[k].procs.c) := hcc k hlt 9 _ rfl
      have hi0 : (0 : Int) ≤ (k : Int) := by omega
      have hi1 : (k : Int) < (ps.length : Int) := by omega
      have hp := (timesV_ok HT.out).per ps[k] (List.getElem_mem _)
      have hq := (timesV_ok HT.out).len ps[k] (List.getElem_mem _)
      have hls := loadTo_succ (F := F) hlt
      have hlb := loadTo_bd HT.out k hk
      have hlb2 := loadTo_bd HT.out (k + 1) hlt
      have htk : (ps.take (k + 1)).map (scaleP g) = (ps.take k).map (scaleP g) ++ [scaleP g ps[k]] := by
        rw [List.take_add_one, List.getElem?_eq_getElem hlt, List.map_append]
        rfl
      have hF0 := hFr
      obtain ⟨W5, hW5⟩ : ∃ W5, W5 = wr.alloc (.cells #[.string ps[k].name, .int .i64 ps[k].period, .int .i64 ps[k].length, .int .i64 ps[k].mem, .slice ps[k].semas.a ps[k].semas.n ps[k].semas.c, .int .i64 ps[k].events, .int .i64 ps[k].boards, .slice ps[k].bufs.a ps[k].bufs.n ps[k].bufs.c, .slice ps[k].ports.a ps[k].ports.n ps[k].ports.c, .slice ps[k].procs.a ps[k].procs.n ps[k].procs.c] 56) := ⟨_, rfl⟩
      have hB5 : Below wr.heap.size wr W5 := by rw [hW5]; exact (Below.refl _ _).alloc (Nat.le_refl _) _
      have hbp : Blk W5 wr.heap.size 56 #[.string ps[k].name, .int .i64 ps[k].period, .int .i64 ps[k].length, .int .i64 ps[k].mem, .slice ps[k].semas.a ps[k].semas.n ps[k].semas.c, .int .i64 ps[k].events, .int .i64 ps[k].boards, .slice ps[k].bufs.a ps[k].bufs.n ps[k].bufs.c, .slice ps[k].ports.a ps[k].ports.n ps[k].ports.c, .slice ps[k].procs.a ps[k].procs.n ps[k].procs.c] := by rw [hW5]; exact Blk.new wr 56 _
      have hBR5 := hBRv.next hB5
      have hbr5 := hbr.below hB5 hbr.lt
      have HW5 := Lib.hid hW5
      have Hls := Lib.hid hls
      have Htk := Lib.hid htk
      have HBR5 := Lib.hid hBR5
      have Hbr5 := Lib.hid hbr5
      have Hbp := Lib.hid hbp
      have hpz : wr.heap.size < W5.heap.size := hbp.lt
      clear hcc hBRv hBR hbr hB5 hW5 hls htk hBR5 hbr5 hbp hBw
      go_upto_region 12 with (fail)
      rw [← HW5.out]
      have r2 : W5.cell? ⟨w.heap.size, 2, none⟩ = some (.int .i64 F) := Hbr5.out.cell 2
      have p1 : W5.cell? ⟨wr.heap.size, 1, none⟩ = some (.int .i64 ps[k].period) := Hbp.out.cell 1
      have p2 : W5.cell? ⟨wr.heap.size, 2, none⟩ = some (.int .i64 ps[k].length) := Hbp.out.cell 2
      have HTk : Hid (scaleP g ps[k] = ⟨ByteArray.empty, g * ps[k].period, g * ps[k].length, 0, ⟨none, 0, 0⟩, 0, 0, ⟨none, 0, 0⟩, ⟨none, 0, 0⟩, ⟨none, 0, 0⟩⟩) := rfl
      have Hbp2 := Lib.hid Hbp.out
      clear c0 c1 c2 c3 c4 c5 c6 c7 c8 c9 q2 q3 HW5 Hbp
      have hls := Hls.out
      have hls0 := hls
      have hdiv : F.tdiv ps[k].period = F / ps[k].period := Int.tdiv_eq_ediv_of_nonneg (by omega)
      have d0 : 0 ≤ F / ps[k].period := Int.ediv_nonneg (by omega) (by omega)
      have d1 : F / ps[k].period ≤ F := Int.ediv_le_self _ (by omega)
      have d2 : 0 ≤ ps[k].length * (F / ps[k].period) := Int.mul_nonneg (by omega) d0
      have d3 : ps[k].length * (F / ps[k].period) ≤ 2000 * 2000 := Int.mul_le_mul (by omega) (by omega) d0 (by omega)
      have hk0 : (ps[k].period == 0) = false := beq_eq_false_iff_ne.2 (by omega)
      have hk1 : ¬ ps[k].period = 0 := by omega
      have m1 : 0 ≤ g * ps[k].period ∧ g * ps[k].period ≤ 16000 := ⟨Int.mul_nonneg (by omega) (by omega), Int.mul_le_mul (c := 8) (d := 2000) hg8 (by omega) (by omega) (by omega)⟩
      have m2 : 0 ≤ g * ps[k].length ∧ g * ps[k].length ≤ 16000 := ⟨Int.mul_nonneg (by omega) (by omega), Int.mul_le_mul (c := 8) (d := 2000) hg8 (by omega) (by omega) (by omega)⟩
      have w1 : wrap64 (F / ps[k].period) = F / ps[k].period := by unfold wrap64; omega
      have w2 := IntWalk.i64_in (ps[k].length * (F / ps[k].period)) (by omega)
      have w3 := IntWalk.i64_in (loadTo F ps k + ps[k].length * (F / ps[k].period)) (by omega)
      have w4 := IntWalk.i64_in (g * ps[k].period) (by omega)
      have w5 := IntWalk.i64_in (g * ps[k].length) (by omega)
      rw [← hls] at w3
      rw [hls] at w3
      clear hls d2 d3 m1 m2 d0 d1 hq
      generalize loadTo F ps k = ld0 at *
      generalize ps[k].period = P at *
      generalize ps[k].length = Ln at *
      go_quiet (fail)
      have HW3 := Lib.hid w3
      have hlsl : ((ps.take k).map (scaleP g)).length = k := by simp; omega
      generalize (ps.take k).map (scaleP g) = ls at *
      have HBR7 : Hid (BR W2 (g * F) ls (W5.drewN nq) v) := Lib.hid (HBR5.out.next (below_drewN (Below.refl _ _) nq))
      have p1' : (W5.drewN nq).cell? ⟨wr.heap.size, 1, none⟩ = some (.int .i64 P) := p1
      have p2' : (W5.drewN nq).cell? ⟨wr.heap.size, 2, none⟩ = some (.int .i64 Ln) := p2
      have b3 : (W5.drewN nq).cell? ⟨W2.heap.size, 3, none⟩ = some v := HBR7.out.blk.cell 3
      have Hlsl := Lib.hid hlsl
      have HD := Lib.hid hls0
      generalize W5.drewN nq = W7 at *
      clear HBR5 Hbr5 Hbp2 p1 p2 r2 hpz nq hdiv hk0 hk1 w1 w2 w3 hlsl
      obtain ⟨W8, hW8⟩ : ∃ W8, W8 = W7.alloc (.cells #[.string ⟨#[]⟩, .int .i64 (g * P), .int .i64 (g * Ln), .int .i64 0, .slice none 0 0, .int .i64 0, .int .i64 0, .slice none 0 0, .slice none 0 0, .slice none 0 0] 56) := ⟨_, rfl⟩
      have hB78 : Below W7.heap.size W7 W8 := by rw [hW8]; exact (Below.refl _ _).alloc (Nat.le_refl _) _
      have hnew : Blk W8 W7.heap.size 56 #[.string ⟨#[]⟩, .int .i64 (g * P), .int .i64 (g * Ln), .int .i64 0, .slice none 0 0, .int .i64 0, .int .i64 0, .slice none 0 0, .slice none 0 0, .slice none 0 0] := by rw [hW8]; exact Blk.new W7 56 _
      have HBR8 := Lib.hid (HBR7.out.next hB78)
      have Hnew := Lib.hid hnew
      have HW8 := Lib.hid hW8
      have hWz : W2.heap.size + 1 ≤ W8.heap.size := by have := HBR8.out.blk.lt; omega
      clear hB78 hnew hW8
      obtain ⟨hi0', hz0', hz1', hz2'⟩ := Hi.out
      have Hi2 := Hi
      go_wp2_with (at_builtin; rw [← HW8.out]; refine wpList_append_lies _ rfl _ _ 22 rfl (W2.heap.size + 1) 56 i0 _ 10 152 Try.underlying22 hi0' hz0' hz1' hz2' rfl (by decide) v ls.length _ rfl HBR8.out.own ⟨W7.heap.size, 0, none⟩ 1 1 [.string ⟨#[]⟩, .int .i64 (g * P), .int .i64 (g * Ln), .int .i64 0, .slice none 0 0, .int .i64 0, .int .i64 0, .slice none 0 0, .slice none 0 0, .slice none 0 0] rfl rfl (World.news_of_block Hnew.out) (by simp [Value.oneCell']) (by omega) (by rw [Hlsl.out]; unfold maxLen; omega) (by rw [Hlsl.out]; omega) hWz _ rfl ?_)
      intro g' cap w9 hown hgrow hg' hgl
      have hpush := HBR8.out.push (p := ⟨ByteArray.empty, g * P, g * Ln, 0, ⟨none, 0, 0⟩, 0, 0, ⟨none, 0, 0⟩, ⟨none, 0, 0⟩, ⟨none, 0, 0⟩⟩) hgrow hown
      have hb9 : Blk w9 W2.heap.size 24 #[.string ⟨#[]⟩, .int .i64 0, .int .i64 (g * F), v] := HBR8.out.blk.grown hgrow (fun e => by have := (HBR8.out.own.lt _ e.symm).1; omega)
      have z3 : w9.cell? ⟨W2.heap.size, 3, none⟩ = some v := hb9.cell 3
      have z4 := hb9.frozen 3
      have hlsl := Hlsl.out
      rw [hlsl] at hpush
      have Hpush := Lib.hid hpush
      rw [hlsl]
      clear hpush hown hgrow hg' hgl hb9 HBR8 HBR7 Hnew HW8 b3 p1' p2' hi0' hz0' hz1' hz2' hlsl Hlsl Hi2
      go_wp2_with fail
      go_roundw
      case rel => exact ⟨k + 1, by omega, by go_num, by rw [HD.out], ⟨_, by rw [Htk.out, HTk.out]; exact Hpush.out⟩⟩
      case measure => simp [intOf]; omega
    · obtain rfl : k = ps.length := by omega
      have hBw := HB2.out.trans (hBRv.below.mono HB2.out.size)
      have hlv : loadTo F ps ps.length = loadV F ps := by unfold loadTo; rw [List.take_length]
      rw [List.take_length] at hBRv
      have hql : (ps.map (scaleP g)).length = ps.length := List.length_map _
      obtain ⟨Aq, cq, rfl, hcq, _, hrq⟩ := rdPart_own hBRv.own
      have hbb := hBRv.blk
      rw [hlv]
      have hpl := plan_c name mem F ps A c wr (H.out.below hBw) hl
      have hlaw := Hlaw.out
      have hcas := planV_cases HT.out
      generalize planV F ps = pv at *
      obtain ⟨po, pc, pe⟩ := pv
      simp only at hpl hlaw hcas
      have q0 : wr.cell? ⟨w.heap.size, 0, none⟩ = some (.string name) := hbr.cell 0
      have q1 : wr.cell? ⟨w.heap.size, 1, none⟩ = some (.int .i64 mem) := hbr.cell 1
      have Hpl := Lib.hid hpl
      have Hlaw' := Lib.hid hlaw
      have Hcas := Lib.hid hcas
      have Hql := Lib.hid hql
      have Hrq := Lib.hid hrq
      have Hbb := Lib.hid hbb
      have Hbr := Lib.hid hbr
      have hql6 : (ps.map (scaleP g)).length ≤ 6 := by omega
      clear hpl hlaw hcas hql hrq hbb hbr hBR hBRv hlv Hlaw HBR0 Hb0 hlt
      generalize ps.map (scaleP g) = qs at *
      generalize loadV F ps = ldv at *
      go_wp2_with fail
      refine Hpl.out.mono ?_
      rintro e W4 ⟨Ao, co, Ac, cc, rfl, hro, _, _, hco, hb4⟩
      have hB4 := hBw.trans (hb4.mono hBw.size)
      have hbr4 := Hbr.out.below hb4 Hbr.out.lt
      have hbb4 := Hbb.out.below hb4 Hbb.out.lt
      have hrq4 := Hrq.out.below hb4
      clear Hpl q0 q1 q2 q3 hBw Hbr Hbb Hrq
      have q2 : W4.cell? ⟨w.heap.size, 2, none⟩ = some (.int .i64 F) := hbr4.cell 2
      have s0 : W4.cell? ⟨W2.heap.size, 0, none⟩ = some (.string ⟨#[]⟩) := hbb4.cell 0
      have s1 : W4.cell? ⟨W2.heap.size, 1, none⟩ = some (.int .i64 0) := hbb4.cell 1
      have s2 : W4.cell? ⟨W2.heap.size, 2, none⟩ = some (.int .i64 (g * F)) := hbb4.cell 2
      have s3 : W4.cell? ⟨W2.heap.size, 3, none⟩ = some (.slice Aq qs.length cq) := hbb4.cell 3
      have Hbr4 := Lib.hid hbr4
      have Hbb4 := Lib.hid hbb4
      have Hrq4 := Lib.hid hrq4
      have Hro := Lib.hid hro
      clear hbr4 hbb4 hrq4 hro hb4
      rcases Hlaw'.out with h5 | ⟨h0, hft, hld⟩ | ⟨h130, hn2, hld, hck⟩
      · subst h5
        go_wp2_with fail
        go_ret
        exact ⟨rfl, hB4⟩
      · subst h0
        have hip : IsPlan ps po := by
          rcases Hcas.out with ⟨os, hv, h1, _⟩ | ⟨h1, _⟩ | ⟨h1, _⟩
          · injection hv with hv _; subst hv; exact h1
          · omega
          · omega
        have hpo6 : po.length ≤ 6 := by rw [hip.1]; exact hps6
        have hpb : ∀ j (hj : j < po.length), 0 ≤ po[j] ∧ po[j] ≤ 2000 := fun j hj => by
          have hjp : j < ps.length := by rw [← hip.1]; exact hj
          have h1 := hip.2 j hjp
          have h2 := (timesV_ok HT.out).per ps[j] (List.getElem_mem _)
          have h3 := (timesV_ok HT.out).len ps[j] (List.getElem_mem _)
          have h4 : lastP ps j = ps[j].period - ps[j].length := by simp [lastP, hjp]
          have h5 : po.getD j 0 = po[j] := by simp [hj]
          obtain ⟨a1, a2, _⟩ := h1
          rw [h5] at a1 a2
          rw [h4] at a2
          omega
        have Hpb := Lib.hid hpb
        have Hft := Lib.hid hft
        obtain ⟨j0, hj0', hjz0', hjz1', hjz2'⟩ := info_parts info3
        have Hj := Lib.hid (And.intro hj0' (And.intro hjz0' (And.intro hjz1' hjz2')))
        clear hip hpb hft Hcas Hlaw' hj0' hjz0' hjz1' hjz2'
        go_wp2_with fail
        go_loopw [16, 17] (fun v i wr => ∃ j : Nat, j ≤ po.length ∧ i = .int .i64 j ∧ Below W4.heap.size W4 wr ∧ Hid (wr.ownsRow W4.heap.size 3 1 v j (((po.take j).map (g * ·)).map (Value.int .i64)))) (fun _ i _ => po.length - (intOf i).toNat)
        case atStart => exact ⟨0, Nat.zero_le _, rfl, Below.refl _ _, World.ownsRow_nil _ _ _ _⟩
        case round =>
          clear q2 s0 s1 s2 s3
          obtain ⟨j, hj, rfl, hBr, hown0⟩ := hrel
          by_cases hlt : j < po.length
          · obtain ⟨b, o, rfl, hb, hcc⟩ := (Hro.out.below hBr) (by omega)
            have c0 := hcc j hlt
            have hi0 : (0 : Int) ≤ (j : Int) := by omega
            have hi1 : (j : Int) < (po.length : Int) := by omega
            have hx := Hpb.out j hlt
            have htk : (po.take (j + 1)).map (g * ·) = (po.take j).map (g * ·) ++ [g * po[j]] := by
              rw [List.take_add_one, List.getElem?_eq_getElem hlt, List.map_append]
              rfl
            have m1 : 0 ≤ g * po[j] ∧ g * po[j] ≤ 16000 := ⟨Int.mul_nonneg (by omega) hx.1, Int.mul_le_mul (c := 8) (d := 2000) hg8 hx.2 hx.1 (by omega)⟩
            have w4 := IntWalk.i64_in (g * po[j]) (by omega)
            have Htk := Lib.hid htk
            clear hcc htk m1 hx
            generalize po[j] = x at *
            obtain ⟨W8, hW8⟩ : ∃ W8, W8 = wr.alloc (.cells #[.int .i64 (g * x)] 3) := ⟨_, rfl⟩
            have hB78 : Below wr.heap.size wr W8 := by rw [hW8]; exact (Below.refl _ _).alloc (Nat.le_refl _) _
            have hnew : Blk W8 wr.heap.size 3 #[.int .i64 (g * x)] := by rw [hW8]; exact Blk.new wr 3 _
            have hown8 := hown0.out.kept (below_grown (row := none) hB78) (by cases u16.ownBlock <;> simp)
            have hB8 := hBr.trans (hB78.mono hBr.size)
            have hWz : W4.heap.size ≤ W8.heap.size := hB8.size
            have Hnew := Lib.hid hnew
            have HW8 := Lib.hid hW8
            have Hown8 := Lib.hid hown8
            clear hB78 hnew hW8 hown8 hown0
            obtain ⟨hj0', hjz0', hjz1', hjz2'⟩ := Hj.out
            go_wp2_with (at_builtin; rw [← HW8.out]; refine wpList_append_lies _ rfl _ _ 28 rfl W4.heap.size 3 j0 _ 1 8 Try.underlying28 hj0' hjz0' hjz1' hjz2' rfl (by decide) _ j _ rfl Hown8.out ⟨wr.heap.size, 0, none⟩ 1 1 [.int .i64 (g * x)] rfl rfl (World.news_of_block Hnew.out) (by simp [Value.oneCell']) (by omega) (by unfold maxLen; omega) (by omega) hWz _ rfl ?_)
            intro g' cap w9 hown hgrow hg' hgl
            have hB9 : Below W4.heap.size W4 w9 := hB8.grown hgrow hB8.size (fun k hk => (Hown8.out.lt k hk).1)
            have Hown := Lib.hid hown
            clear hown hgrow hg' hgl Hown8 Hnew HW8 hj0' hjz0' hjz1' hjz2' hB8
            go_wp2_with fail
            go_roundw
            case rel => exact ⟨j + 1, by omega, by go_num, hB9, by rw [Htk.out, List.map_append]; exact Lib.hid (by simpa using Hown.out)⟩
            case measure => simp [intOf]; omega
          · obtain rfl : j = po.length := by omega
            have hown := hown0.out
            rw [List.take_length] at hown
            obtain ⟨Aw, cw, rfl, hcw, hrw⟩ := rdInt_owned (l := po.map (g * ·)) (by rw [List.length_map]; exact hown)
            have hbr5 := Hbr4.out.below hBr Hbr4.out.lt
            have hbb5 := Hbb4.out.below hBr Hbb4.out.lt
            have hrq5 := Hrq4.out.below hBr
            have hB5 := hB4.trans (hBr.mono hB4.size)
            have q2 : wr.cell? ⟨w.heap.size, 2, none⟩ = some (.int .i64 F) := hbr5.cell 2
            have s0 : wr.cell? ⟨W2.heap.size, 0, none⟩ = some (.string ⟨#[]⟩) := hbb5.cell 0
            have s1 : wr.cell? ⟨W2.heap.size, 1, none⟩ = some (.int .i64 0) := hbb5.cell 1
            have s2 : wr.cell? ⟨W2.heap.size, 2, none⟩ = some (.int .i64 (g * F)) := hbb5.cell 2
            have s3 : wr.cell? ⟨W2.heap.size, 3, none⟩ = some (.slice Aq qs.length cq) := hbb5.cell 3
            have hwl : (po.map (g * ·)).length ≤ 6 := by rw [List.length_map]; exact hpo6
            have hf := fits_c ⟨#[]⟩ 0 (g * F) qs Aq cq (po.map (g * ·)) Aw cw wr hrq5 hrw hcw (by omega) (by omega)
            rw [Hft.out] at hf
            have Hf := Lib.hid hf
            have hdl : decide (ldv ≤ F) = true := decide_eq_true hld
            have hbz := hbr5.lt
            have Hbr5 := Lib.hid hbr5
            clear hf hown hown0 hrw hrq5 hbb5 hbr5 hlt Hft Hpb Hj
            generalize po.map (g * ·) = ws at *
            go_wp2_with fail
            refine Hf.out.mono ?_
            rintro e W6 ⟨rfl, hb6⟩
            have hB6 := hB5.trans (hb6.mono hB5.size)
            have hbr6 := Hbr5.out.below hb6 Hbr5.out.lt
            clear q2 s0 s1 s2 s3 Hf hb6
            have q2 : W6.cell? ⟨w.heap.size, 2, none⟩ = some (.int .i64 F) := hbr6.cell 2
            go_wp2_with fail
            go_ret
            exact ⟨rfl, hB6⟩
      · subst h130
        have hplB := plan_c ⟨#[]⟩ 0 (g * F) qs Aq cq W4 Hrq4.out (by omega)
        have hsz := planV_size (g * F) qs
        generalize planV (g * F) qs = pv2 at *
        obtain ⟨po2, pc2, pe2⟩ := pv2
        simp only at hplB hn2 hld hck hsz
        have hlen2 : pc2.length ≤ 16384 := Nat.le_trans (sizeL_len pc2) hsz
        have HplB := Lib.hid hplB
        have Hck := Lib.hid hck
        clear hplB hck hsz Hcas Hlaw'
        have hne2 : (pe2 != (2 : Int)) = true := by simpa using hn2
        go_wp2_with fail
        refine HplB.out.mono ?_
        rintro e W5 ⟨Ao2, co2, Ac2, cc2, rfl, _, hrc2, _, _, hb5⟩
        have hB5 := hB4.trans (hb5.mono hB4.size)
        have hbr5 := Hbr4.out.below hb5 Hbr4.out.lt
        have hbb5 := Hbb4.out.below hb5 Hbb4.out.lt
        have hrq5 := Hrq4.out.below hb5
        clear q2 s0 s1 s2 s3 HplB hb5 Hbr4 Hbb4 Hrq4 Hro
        have q2 : W5.cell? ⟨w.heap.size, 2, none⟩ = some (.int .i64 F) := hbr5.cell 2
        have s0 : W5.cell? ⟨W2.heap.size, 0, none⟩ = some (.string ⟨#[]⟩) := hbb5.cell 0
        have s1 : W5.cell? ⟨W2.heap.size, 1, none⟩ = some (.int .i64 0) := hbb5.cell 1
        have s2 : W5.cell? ⟨W2.heap.size, 2, none⟩ = some (.int .i64 (g * F)) := hbb5.cell 2
        have s3 : W5.cell? ⟨W2.heap.size, 3, none⟩ = some (.slice Aq qs.length cq) := hbb5.cell 3
        have hrk : RdK W5 Ac2 pc2 := hrc2.keep fun b ⟨_, o, g2, _⟩ => ⟨fun _ => rfl, (Array.getElem?_eq_some_iff.1 g2).1⟩
        have hcb := check_c ⟨#[]⟩ 0 (g * F) qs Aq cq pc2 Ac2 cc2 W5 hrq5 hrk (by omega) (by omega)
        have Hcb := Lib.hid hcb
        clear hcb hrk hrq5 hbb5 hbr5 hrc2
        by_cases h13 : pe2 = 130
        · subst h13
          have hcv := Hck.out rfl
          rw [hcv] at Hcb
          by_cases hl2 : ldv ≤ F
          · have hdl : decide (ldv ≤ F) = true := decide_eq_true hl2
            clear hld Hck hcv
            go_wp2_with fail
            refine Hcb.out.mono ?_
            rintro e W6 ⟨rfl, hb6⟩
            have hB6 := hB5.trans (hb6.mono hB5.size)
            clear q2 s0 s1 s2 s3 Hcb hb6
            go_wp2_with fail
            go_ret
            exact ⟨rfl, hB6⟩
          · have hdl : decide (ldv ≤ F) = false := decide_eq_false hl2
            clear hld Hck hcv
            go_wp2_with fail
            refine Hcb.out.mono ?_
            rintro e W6 ⟨rfl, hb6⟩
            have hB6 := hB5.trans (hb6.mono hB5.size)
            clear q2 s0 s1 s2 s3 Hcb hb6
            go_wp2_with fail
            go_ret
            exact ⟨rfl, hB6⟩
        · have hd13 : (pe2 != (130 : Int)) = true := by simpa using h13
          clear Hck Hcb
          by_cases hl2 : ldv ≤ F
          · have hdl : decide (ldv ≤ F) = true := decide_eq_true hl2
            clear hld h13 hn2
            go_wp2_with fail
            go_ret
            exact ⟨rfl, hB5⟩
          · have hdl : decide (ldv ≤ F) = false := decide_eq_false hl2
            have hd0 : (pe2 != (0 : Int)) = true := by
              rcases hld with h | h
              · exact absurd h hl2
              · simpa using h
            clear hld h13 hn2
            go_wp2_with fail
            go_ret
            exact ⟨rfl, hB5⟩
end

-- THE ROW
set_option maxRecDepth 100000 in
theorem planScaled_lifted (os : Os) (started : os.Started) (H : Type) (enc : TypeId × Value → H) :
    ReturnsInHanded {} Try.checked os 9 .any (Rows.planScaledSpec.pre6 enc Try.prog Try.f9 Rows.planScaledRow.domain false) (Rows.planScaledSpec.post enc Try.prog Try.f9 false true false false) := by
  refine returnsInHanded_of_change_sized (C := Try.checked) own started (by kernel_rfl) Try.func9
    (ChangeSpec.witness6 (enc := enc) (C := Try.checked) false ⟨#[], #[.agg #[.string ⟨#[]⟩, .int .i64 0, .int .i64 0, .slice none 0 0], .int .i64 0], []⟩ 8 (by kernel_rfl) (by kernel_rfl) (by kernel_rfl) (by kernel_rfl)) ?_
  intro W base args ds gs before hval0 hW hcnd hsz0 _
  have hval : ∀ (j : Nat) t v, Try.f9.params[j]? = some t → args[j]? = some v → Value.okWide Try.prog W .any base t v := hval0
  have hW' := hW
  obtain ⟨p, q, hA0, hV, rfl, hfz, hnd⟩ := hW
  have hA : DataW.TrodAll enc Try.prog W 0 (fun _ => true) true Try.f9.params.toList args.toList ds p := hA0
  rw [Try.params9] at hA hval
  obtain ⟨v0, vs0, d0, ds0, p0, q0, hargs, rfl, rfl, h0, r0⟩ := trodAll_cons hA
  obtain ⟨v1, vs1, d1, ds1, p1, q1, rfl, rfl, rfl, h1, r1⟩ := trodAll_cons r0
  obtain ⟨rfl, rfl, rfl⟩ := trodAll_nil r1
  obtain rfl : args = #[v0, v1] := by cases args; simp_all
  obtain ⟨name0, mem0, frame0, A0, c0, l0, rfl, km0, kf0, hlc0, hcm0, hR0, hP0⟩ := open_module (hval 0 24 v0 rfl rfl) h0
  obtain ⟨a1, rfl, rfl, rfl, w1⟩ := open_int Try.underlying3 (hval 1 3 v1 rfl rfl) h1
  have hsz := hsz0
  rw [Try.params9] at hsz
  have hz0 := sz_module (hval 0 24 _ rfl rfl) h0 (fun n hn => by simpa using List.all_eq_true.1 hsz n (DataW.weights_mem_each (j := 0) (t := 24) rfl rfl n hn)) rfl
  clear hA0 hval0
  refine (scaled_walk name0 mem0 frame0 l0 A0 c0 a1 W hR0 hz0).mono fun e W' ⟨he, hg⟩ => ?_
  subst he
  refine ⟨_, rfl, law_post (tb := 4) laid ?_ ?_ Try.underlying4 rfl hW' ⟨rfl, rfl, rfl⟩ hg⟩
  · rw [Try.params9]; intro t ht; simp at ht; rcases ht with rfl | rfl <;> exact ⟨by kernel_rfl, of_decide_eq_true (by kernel_rfl)⟩
  · kernel_rfl

theorem planScaled_holds : Rows.PlanScaledSaid :=
  OpenClaim.holds_of_wide 9 Try.f9 rfl rfl rfl rfl rfl rfl rfl ⟨rfl, rfl, rfl, rfl, rfl⟩ rfl rfl rfl rfl rfl (by kernel_rfl) Try.func9 (by kernel_rfl)
    (of_decide_eq_true (by kernel_rfl)) (by unfold Func.isWrapper; first | (rw [if_pos (by decide +kernel)]; kernel_rfl) | (rw [if_neg (by decide +kernel)]; exact ⟨rfl, rfl⟩))
    (fun os started H enc _ => planScaled_lifted os started H enc)
#print axioms planScaled_holds
end Go.Proofs.Ytlmbffnmjfbglab
