/- The contract of Table. -/
import Derived.Test.YtlmbffnmjfbglabwT0
import Derived.Test.YtlmbffnmjfbglabwS2
namespace Go.Proofs.Ytlmbffnmjfbglab
open Go.ChangeShapes Go.WideShapes Go.ChangeAt Go.RowKit

attribute [local go_sem] Oper.semAt_some

def RetTable (w : World) (F : Int) (ps : List Part) (os : List Int) (e : Ending) (w' : World) : Prop := ∃ A c q, e = .returned (.tuple #[.slice A q.1.length c, .int .i64 q.2]) ∧ TableV F ps os q ∧ RdG Win.tri w' w'.heap.size A q.1 ∧ Below w.heap.size w w'

theorem nameWide {P : Program} {f n : Nat} {args : Array Value} {w : World} {R : Ending → World → Prop} (h : ∀ W0, W0 = w → Fence.wide.fn f ∧ CallsIn Fence.wide n P f args W0 R) : Fence.wide.fn f ∧ CallsIn Fence.wide n P f args w R := h w rfl
theorem ownFrom_row {β : Type} (B base : Nat) (t : TypeId) (size n : Nat) (v : Value) (xs : List Value) : OwnFrom B (fun (_ : β) W => W.ownsRow base t size v n xs) := fun _ X _ _ hs hg hr => hs.kept hg (by
  rcases hs.2 with ⟨rfl, _⟩ | ⟨g, cap, cur, rfl, _, hh, _⟩
  · exact .inl rfl
  · refine .inr fun e => ?_
    obtain ⟨_, o, ho, hc⟩ := hr g e.symm
    rw [hh] at ho; cases ho; cases hc)
/-- what the taking over of the marks leaves alone. -/
structure Shut (B : Nat) (W W' : World) : Prop where
  below : Below B W W'
  cells : ∀ (k : Nat) (o : Obj), W.heap[k]? = some o → o.isCells = true → W'.heap[k]? = some o
  size : W.heap.size ≤ W'.heap.size
theorem Shut.rd {α : Type} {f : α → Tri} {B : Nat} {W W' : World} {A : Option Addr} {l : List α} (h : Shut B W W') (hr : RdG f W W.heap.size A l) : RdG f W' W'.heap.size A l := fun hn => by
  obtain ⟨b, o, rfl, hb, hc⟩ := hr hn
  have key : ∀ j v, W.cell? ⟨b, j, none⟩ = some v → W'.cell? ⟨b, j, none⟩ = some v := fun j v hv => by
    obtain ⟨ob, ho, hcl⟩ := cells_of_cell hv
    exact (World.cell?_of_block ((h.cells _ _ ho hcl).trans ho.symm)).trans hv
  exact ⟨b, o, rfl, Nat.lt_of_lt_of_le hb h.size, fun i hi => ⟨key _ _ (hc i hi).1, key _ _ (hc i hi).2.1, key _ _ (hc i hi).2.2⟩⟩
def markD (D : Nat) : Deferred := { target := .collected D, args := #[] }
theorem leaves_marks {F : Fence} {n : Nat} {P : Program} {fn : Func} {tmps : Array Value} {R : Ending → World → Prop} : ∀ (Ds : List Nat) (W : World) (B : Nat), Ds.Nodup → (∀ D ∈ Ds, B ≤ D ∧ W.heap[D]? = some (.deferred (some []))) →
    (∀ W', Shut B W W' → LeavesIn F n P fn tmps R [] .returning W') → LeavesInM F n P fn tmps R (Ds.map markD) .returning W
  | [], W, B, _, _, h => h W ⟨Below.refl _ _, fun _ _ hk _ => hk, Nat.le_refl _⟩
  | D :: Ds, W, B, hn, hm, h => by
    obtain ⟨hD, hn'⟩ := List.nodup_cons.1 hn
    obtain ⟨hB, hW⟩ := hm D (by simp)
    refine ⟨by simp, .inl ⟨D, _, rfl, run_takeDeferred hW, ?_⟩⟩
    refine leaves_marks Ds _ B hn' (fun E hE => ⟨(hm E (by simp [hE])).1, (World.putObj_heap_other (by rintro rfl; exact hD hE)).trans (hm E (by simp [hE])).2⟩) fun W' hS => h W' ?_
    refine ⟨?_, fun k o hk hc => hS.cells k o ((World.putObj_heap_other (fun e => ?_)).trans hk) hc, ?_⟩
    · exact ((Below.refl B W).grown (grownBy_putObj' W D (.deferred none)) (by have := (Array.getElem?_eq_some_iff.1 hW).1; omega) (fun k e => by cases e; omega)).trans hS.below
    · subst e; rw [hW] at hk; cases hk; cases hc
    · have := hS.size; simpa using this
theorem info31 : (Try.prog.info? 107).map (fun i => (i.zero, i.size, i.bytes)) = some (some (.agg #[.int .i64 0, .int .i64 0, .int .i64 0]), 3, 24) := by kernel_rfl

/-- what the third loop keeps. -/
structure TL (w1 : World) (Bo : Nat) (F : Int) (sl : List Slot) (k : Nat) (v : Value) (Ds : List Nat) (W : World) : Prop where
  le : k ≤ sl.length
  below : Below w1.heap.size w1 W
  size : Bo + 1 ≤ W.heap.size
  out : Blk W Bo 84 #[v]
  own : W.ownsRow (Bo + 1) 107 3 v (winsTo F sl k).length ((winsTo F sl k).flatMap (cellsG Win.tri))
  nodup : Ds.Nodup
  marks : ∀ D ∈ Ds, Bo + 1 ≤ D ∧ W.heap[D]? = some (.deferred (some []))
theorem TL.alloc {w1 : World} {Bo : Nat} {F : Int} {sl : List Slot} {k : Nat} {v : Value} {Ds : List Nat} {W : World} (h : TL w1 Bo F sl k v Ds W) (o : Obj) : TL w1 Bo F sl k v Ds (W.alloc o) :=
  ⟨h.le, h.below.alloc h.below.size _, by simp; have := h.size; omega, h.out.alloc _, h.own.alloc _, h.nodup, fun D hD => ⟨(h.marks D hD).1, (Below.heap_alloc W o D (Array.getElem?_eq_some_iff.1 (h.marks D hD).2).1).trans (h.marks D hD).2⟩⟩
/-- what a round of the range keeps. -/
structure TI (w1 W4 : World) (Bo Bi Bx : Nat) (F : Int) (sl : List Slot) (x : Slot) (k : Nat) (Ds : List Nat) (j : Nat) (W : World) : Prop where
  below : Below w1.heap.size w1 W
  size : W4.heap.size ≤ W.heap.size
  out : ∃ v, Blk W Bo 84 #[v] ∧ W.ownsRow (Bo + 1) 107 3 v (winsTo F sl k ++ winsS k x j).length ((winsTo F sl k ++ winsS k x j).flatMap (cellsG Win.tri))
  bi : Blk W Bi 3 #[.int .i64 k]
  bs : Blk W (Bi + 1) 46 #[.int .i64 x.off, .int .i64 x.per, .int .i64 x.len]
  bx : Blk W Bx 77 #[.int .i64 x.off, .int .i64 x.per, .int .i64 x.len]
  marks : ∀ D ∈ Ds, D < W4.heap.size ∧ W.heap[D]? = some (.deferred (some []))
section
variable {w1 W4 : World} {Bo Bi Bx : Nat} {F : Int} {sl : List Slot} {x : Slot} {k : Nat} {Ds : List Nat} {v : Value}
theorem TI.start (hT : TL w1 Bo F sl k v Ds W4) (hi : Blk W4 Bi 3 #[.int .i64 k]) (hs : Blk W4 (Bi + 1) 46 #[.int .i64 x.off, .int .i64 x.per, .int .i64 x.len]) (hx : Blk W4 Bx 77 #[.int .i64 x.off, .int .i64 x.per, .int .i64 x.len]) : TI w1 W4 Bo Bi Bx F sl x k Ds 0 W4 :=
  ⟨hT.below, Nat.le_refl _, ⟨v, hT.out, by simpa [winsS] using hT.own⟩, hi, hs, hx, fun D hD => ⟨(Array.getElem?_eq_some_iff.1 (hT.marks D hD).2).1, (hT.marks D hD).2⟩⟩
theorem TI.own (hT : TL w1 Bo F sl k v Ds W4) : OwnFrom W4.heap.size (fun j W => TI w1 W4 Bo Bi Bx F sl x k Ds j W) := fun j X Y row hs hg hr =>
  ⟨ownFrom_below (Nat.le_refl _) hT.below.size j X Y row hs.below hg hr, Nat.le_trans hs.size hg.size,
   by obtain ⟨v, h1, h2⟩ := hs.out; exact ⟨v, ownFrom_blk (β := Nat) W4.heap.size _ _ _ j X Y row h1 hg hr, ownFrom_row (β := Nat) W4.heap.size _ _ _ _ _ _ j X Y row h2 hg hr⟩,
   ownFrom_blk (β := Nat) W4.heap.size _ _ _ j X Y row hs.bi hg hr, ownFrom_blk (β := Nat) W4.heap.size _ _ _ j X Y row hs.bs hg hr, ownFrom_blk (β := Nat) W4.heap.size _ _ _ j X Y row hs.bx hg hr,
   fun D hD => ⟨(hs.marks D hD).1, (hg.block D (Array.getElem?_eq_some_iff.1 (hs.marks D hD).2).1 (fun e => by have := (hr D e.symm).1; have := (hs.marks D hD).1; omega)).trans (hs.marks D hD).2⟩⟩
theorem TI.ownc (hT : TL w1 Bo F sl k v Ds W4) {j : Nat} : OwnFrom W4.heap.size (fun (_ : Code) W => TI w1 W4 Bo Bi Bx F sl x k Ds j W) := fun _ X Y row hs hg hr => TI.own hT j X Y row hs hg hr
theorem own_cells {W : World} {base n : Nat} {t : TypeId} {size : Nat} {v : Value} {xs : List Value} (h : W.ownsRow base t size v n xs) (j : Nat) (o : Obj) (hj : v.ownBlock = some j) (ho : W.heap[j]? = some o) : o.isCells = true := by
  rcases h.2 with ⟨rfl, _⟩ | ⟨g, cap, cur, rfl, _, hh, _⟩
  · cases hj
  · have : g = j := by simpa [Value.ownBlock] using hj
    subst this
    rw [hh] at ho; cases ho; rfl
/-- a round that appends: its window, into a row from block Bo + 1 on, then the new slice into the box. -/
theorem TI.step {W w2 : World} {j : Nat} {v v2 : Value} {n : Nat} {xs : List Value} {o : Obj} (hI : TI w1 W4 Bo Bi Bx F sl x k Ds j W) (hBo : w1.heap.size ≤ Bo) (_hB4 : Bo + 1 ≤ W4.heap.size) (hbo : Blk W Bo 84 #[v]) (hown : W.ownsRow (Bo + 1) 107 3 v n xs)
    (hgrow : (W.alloc o).grownBy w2 v.ownBlock) (hown2 : w2.ownsRow (Bo + 1) 107 3 v2 (winsTo F sl k ++ winsS k x (j + 1)).length ((winsTo F sl k ++ winsS k x (j + 1)).flatMap (cellsG Win.tri))) :
    KeepsOthers W (w2.setCell ⟨Bo, 0, none⟩ v2) ∧ (w2.setCell ⟨Bo, 0, none⟩ v2).heap[Bx]? = W.heap[Bx]? ∧ TI w1 W4 Bo Bi Bx F sl x k Ds (j + 1) (w2.setCell ⟨Bo, 0, none⟩ v2) := by
  have hko : KeepsOthers W (w2.setCell ⟨Bo, 0, none⟩ v2) := (KeepsOthers.alloc W o).trans ((KeepsOthers.of_grownBy hgrow (own_cells (hown.alloc o))).trans (KeepsOthers.setCell _ _ _))
  have keep : ∀ g t cs, Blk W g t cs → (107 : TypeId) ≠ t → g ≠ Bo → Blk (w2.setCell ⟨Bo, 0, none⟩ v2) g t cs := fun g t cs hg ht hne =>
    ((hg.alloc o).grown hgrow (fun e => own_blk_ne hown hg ht e.symm)).far (p := ⟨Bo, 0, none⟩) hne _
  have nbi : Bi ≠ Bo := fun e => (Blk.ne_ hI.bi hbo (by decide)) e
  have nbs : Bi + 1 ≠ Bo := fun e => (Blk.ne_ hI.bs hbo (by decide)) e
  have nbx : Bx ≠ Bo := fun e => (Blk.ne_ hI.bx hbo (by decide)) e
  have hbx := keep _ _ _ hI.bx (by decide) nbx
  have hob := ((hbo.alloc o).grown hgrow (fun e => own_blk_ne hown hbo (by decide) e.symm)).set_ 0 v2
  have hsz : W.heap.size ≤ w2.heap.size := by have := hgrow.size; simp at this; omega
  refine ⟨hko, hbx.trans hI.bx.symm, ?_, Nat.le_trans hI.size hko.size, ⟨v2, hob, ownsRow_setCell_below hown2 (by simp) _⟩, keep _ _ _ hI.bi (by decide) nbi, keep _ _ _ hI.bs (by decide) nbs, hbx, fun D hD => ⟨(hI.marks D hD).1, hko.same D _ (hI.marks D hD).2 rfl⟩⟩
  exact (((hI.below.alloc hI.below.size o).grown hgrow (by simp; have := hI.below.size; omega) (fun g hg => by have := hown.lt g hg; omega))).setCell (p := ⟨Bo, 0, none⟩) hBo _
end

set_option maxRecDepth 100000 in
set_option maxHeartbeats 1000000 in
theorem table_c (name : ByteArray) (mem F : Int) (ps : List Part) (A : Option Addr) (c : Nat) (os : List Int) (A' : Option Addr) (c' : Nat) (w : World) (h : RdPart w w.heap.size A ps) (h' : RdInt w w.heap.size A' os) (hl : ps.length ≤ 9223372036854775807) (hl' : os.length ≤ 9223372036854775807) :
    Calls Try.prog 57 #[.agg #[.string name, .int .i64 mem, .int .i64 F, .slice A ps.length c], .slice A' os.length c'] w (RetTable w F ps os) := by
  have hB : Below w.heap.size w (w.alloc (.cells #[.string name, .int .i64 mem, .int .i64 F, .slice A ps.length c] 24)) := (Below.refl _ w).alloc (Nat.le_refl _) _
  have hblk := Blk.new w 24 #[.string name, .int .i64 mem, .int .i64 F, .slice A ps.length c]
  have ht := slots_c name mem F ps A c os A' c' _ (h.below hB) ((h'.keep hB).more hB.size) hl hl'
  clear h h'
  refine (callsIn_wide (n := 9)).1 ?_
  refine callsIn_of_wp_marks Try.func57 rfl trivial ?_ rfl
  simp only [Try.ntmps57, List.size_toArray, List.length_cons, List.length_nil, Nat.reduceAdd, Nat.reduceSub, Array.replicate_succ, Array.replicate_zero, List.push_toArray, List.append_toArray, List.nil_append, List.cons_append]
  gi_wp2_with fail
  refine ⟨trivial, (callsIn_wide.2 ht).mono ?_⟩
  rintro e w1 ⟨A1, c1, rfl, hrd, hb1⟩
  have hB1 := hB.trans (hb1.mono hB.size)
  have hk1 := hblk.below hb1 hblk.lt
  have hz1 : w.heap.size + 1 ≤ w1.heap.size := by have := hb1.size; simpa using this
  clear hB hblk hb1 ht
  by_cases he : (slotsV F ps os).2 = 0
  · have hok := slotsV_ok he
    have He := Lib.hid he
    rw [he]
    clear he
    have Hq := Lib.hid (show slotsV F ps os = ((slotsV F ps os).1, 0) from Prod.ext rfl He.out)
    generalize hsl : (slotsV F ps os).1 = sl at *
    have Hsl := Lib.hid hsl
    clear hsl
    have hF1 := hok.frame.1
    have hF2 := hok.frame.2
    have h6 := hok.few
    gi_wp2_with fail
    gi_loopw [26] (fun i wr => ∃ k : Nat, k ≤ sl.length ∧ i = .int .i64 k ∧ Below w1.heap.size w1 wr ∧ Hid (∀ i k' (h : k' < i) (hi : i < sl.length), i < k → apartB sl[k'] sl[i] = true)) (fun i _ => sl.length - (intOf i).toNat)
    case atStart => exact ⟨0, Nat.zero_le _, rfl, Below.refl _ _, fun i k' _ _ h => absurd h (by omega)⟩
    case round =>
      obtain ⟨k, hk, rfl, hB, hall⟩ := hrel
      by_cases hlt : k < sl.length
      · have hokk := hok.ok sl[k] (List.getElem_mem _)
        gi_wp2_with fail
        obtain ⟨wo, hwo⟩ : ∃ wo : World, wo = wr := ⟨_, rfl⟩
        subst hwo
        gi_loopw [30] (fun j wr => ∃ m : Nat, m ≤ k ∧ j = .int .i64 m ∧ Below w1.heap.size w1 wr ∧ Hid (∀ k' (h : k' < m) (h2 : k' < sl.length), apartB sl[k'] sl[k] = true)) (fun j _ => k - (intOf j).toNat)
        case atStart => exact ⟨0, Nat.zero_le _, rfl, hB, fun k' h => absurd h (by omega)⟩
        case round =>
          obtain ⟨m, hm, rfl, hB2, hin⟩ := hrel
          by_cases hlm : m < k
          · have hmm : m < sl.length := by omega
            have hokm := hok.ok sl[m] (List.getElem_mem _)
            have hap := fun x : Ext wr => apart_c sl[m] sl[k] x.w hokm hokk
            obtain ⟨b, o, rfl, hbB, hc⟩ := hrd.keep hB2 (by omega)
            obtain ⟨c0, c1', c2⟩ := hc m hmm
            obtain ⟨d0, d1, d2⟩ := hc k hlt
            change _ = some (Value.int .i64 sl[m].off) at c0
            change _ = some (Value.int .i64 sl[m].per) at c1'
            change _ = some (Value.int .i64 sl[m].len) at c2
            change _ = some (Value.int .i64 sl[k].off) at d0
            change _ = some (Value.int .i64 sl[k].per) at d1
            change _ = some (Value.int .i64 sl[k].len) at d2
            have hno : apartB sl[m] sl[k] = false → ¬ NoClash sl := fun e hh => by have := hh k m hlm hlt; rw [e] at this; cases this
            have hyes : apartB sl[m] sl[k] = true → ∀ k' (h : k' < m + 1) (h2 : k' < sl.length), apartB sl[k'] sl[k] = true := fun e k' h h2 => by
              by_cases e' : k' = m
              · subst e'; exact e
              · exact hin.out k' (by omega) h2
            have Hno := Lib.hid hno
            have Hyes := Lib.hid hyes
            have hbw : b < wr.heap.size := Nat.lt_of_lt_of_le hbB hB2.size
            have hi0 : (0 : Int) ≤ (m : Int) := by omega
            have hi1 : (m : Int) < (sl.length : Int) := by omega
            have hi2 : (0 : Int) ≤ (k : Int) := by omega
            have hi3 : (k : Int) < (sl.length : Int) := by omega
            clear hno hyes hc hrd hin hall hokk hokm
            generalize apartB sl[m] sl[k] = q at hap Hno Hyes
            generalize sl[m] = x at *
            generalize sl[k] = y at *
            have hec := ext_cell wr
            gi_wp2_with fail
            refine wpIn_wide.2 ?_
            refine wp_region_ext (by kernel_rfl) (by kernel_rfl) ?_
            repeat (go_big_quiet_step ((go_at_call 47; exact ext_call (hap _))))
            refine wpQuiet_nil ?_
            rintro w' ⟨xw, rfl⟩
            have hx := xw.h
            clear hap hec c0 c1' c2 d0 d1 d2
            generalize xw.w = w' at hx ⊢
            have hB3 := hB2.trans (hx.mono hB2.size)
            cases q with
            | true =>
              gi_wp2
              go_roundw
              case rel => exact ⟨m + 1, by omega, by go_num, hB3, Hyes.out rfl⟩
              case measure => simp [intOf]; omega
            | false =>
              have hnn := Lib.hid (Hno.out rfl)
              clear Hno Hyes
              gi_wp2
              exact ⟨.tuple #[.slice none 0 0, .int .i64 120], by simp [results, Try.f57, go_sem], none, 0, ([], 120), rfl, .inr (.inl ⟨He.out, (by rw [Hsl.out]; exact hnn.out), rfl⟩), RdG.nil, hB1.trans (hB3.mono hB1.size)⟩
          · obtain rfl : m = k := by omega
            gi_wp2
            go_roundw
            case rel =>
              refine ⟨m + 1, by omega, by go_num, hB2, fun i k' h hi him => ?_⟩
              by_cases e : i = m
              · subst e; exact hin.out k' h (by omega)
              · exact hall.out i k' h hi (by omega)
            case measure => simp [intOf]; omega
      · have hnc : Hid (NoClash sl) := fun i k' h hi => hall.out i k' h hi (by omega)
        obtain rfl : k = sl.length := by omega
        clear hall
        gi_wp2_with fail
        have hBo := hB.size
        have hb0 := Blk.new wr 84 #[.slice none 0 0]
        have hBa : Below w1.heap.size w1 (wr.alloc (.cells #[.slice none 0 0] 84)) := hB.alloc hBo _
        have hsa : wr.heap.size + 1 ≤ (wr.alloc (.cells #[.slice none 0 0] 84)).heap.size := by simp
        generalize wr.alloc (.cells #[.slice none 0 0] 84) = wa at hb0 hBa hsa ⊢
        generalize wr.heap.size = Bo at hb0 hBo hsa ⊢
        clear hB
        have hq4 : (Blk wa w.heap.size 24 #[.string name, .int .i64 mem, .int .i64 F, .slice A ps.length c]) := hk1.below hBa hk1.lt
        refine wpIn_loop (fun a wr => ∃ (k : Nat) (v : Value) (Ds : List Nat), TL w1 Bo F sl k v Ds wr ∧ ∃ z12 z13 z49 z50 z51 z52 z53 z54 z68 : Value, a = { tmps := #[.agg #[.string name, .int .i64 mem, .int .i64 F, .slice A ps.length c], .slice A' os.length c', .pointer (some ⟨w.heap.size, 0, none⟩), undef, u4, u5, .slice A1 sl.length c1, .int .i64 0, .func (.func 47) #[] #[], u9, u10, .pointer (some ⟨Bo, 0, none⟩), z12, z13, undef, .tuple #[.slice A1 sl.length c1, .int .i64 0], .agg #[.string name, .int .i64 mem, .int .i64 F, .slice A ps.length c], .slice A' os.length c', .tuple #[.slice A1 sl.length c1, .int .i64 0], .slice A1 sl.length c1, .int .i64 0, .int .i64 0, .bool false, undef, .slice A1 sl.length c1, .int .i64 sl.length, .int .i64 sl.length, .bool false, u28, u29, u30, u31, u32, u33, u34, u35, u36, u37, u38, u39, u40, u41, u42, u43, u44, u45, .slice A1 sl.length c1, .int .i64 sl.length, .int .i64 k, z49, z50, z51, z52, z53, z54, undef, undef, undef, undef, undef, undef, undef, undef, undef, undef, undef, undef, undef, z68, undef, undef], defers := Ds.map markD }) (fun a _ => sl.length - (intOf (a.tmps.getD 48 undef)).toNat) ?h0 ?round
        case h0 => exact ⟨0, _, [], ⟨Nat.zero_le _, hBa, hsa, hb0, World.ownsRow_nil _ _ _ _, List.nodup_nil, fun D h => absurd h (by simp)⟩, _, _, _, _, _, _, _, _, _, rfl⟩
        case round =>
          clear hb0 hBa hsa hq4
          rintro a wr ⟨k, v, Ds, hT, z12, z13, z49, z50, z51, z52, z53, z54, z68, rfl⟩
          by_cases hlt : k < sl.length
          · have hx := hok.ok sl[k] (List.getElem_mem _)
            have hdv := hok.div sl[k] (List.getElem_mem _)
            obtain ⟨b, o, rfl, hbB, hc⟩ := hrd.keep hT.below (by omega)
            obtain ⟨d0, d1, d2⟩ := hc k hlt
            change _ = some (Value.int .i64 sl[k].off) at d0
            change _ = some (Value.int .i64 sl[k].per) at d1
            change _ = some (Value.int .i64 sl[k].len) at d2
            have hws := winsTo_succ F sl k hlt
            have hwl := winsTo_len hok.ok hF2 k (by omega)
            have hi0 : (0 : Int) ≤ (k : Int) := by omega
            have hi1 : (k : Int) < (sl.length : Int) := by omega
            have hti := tk_lt_iff hx hF1 hdv
            have hcb := cnt_bd hx hF2
            clear hc hdv
            generalize sl[k] = x at hx d0 d1 d2 hws hti hcb
            have Hws := Lib.hid hws
            have Hti := Lib.hid hti
            clear hws hti
            generalize cntS F x = cn at Hws Hti hcb
            gi_wp2_with fail
            refine nameWide fun W0 hW0 => ?_
            have hz0 : W0.heap.size = wr.heap.size + 2 := by subst hW0; simp
            have hbi : Blk W0 wr.heap.size 3 #[.int .i64 k] := by subst hW0; exact (Blk.new _ _ _).alloc _
            have hbs : Blk W0 (wr.heap.size + 1) 46 #[.int .i64 x.off, .int .i64 x.per, .int .i64 x.len] := by subst hW0; have := Blk.new (wr.alloc (.cells #[.int .i64 k] 3)) 46 #[.int .i64 x.off, .int .i64 x.per, .int .i64 x.len]; rwa [World.size_alloc] at this
            have hT0 : TL w1 Bo F sl k v Ds W0 := by subst hW0; exact (hT.alloc _).alloc _
            clear hW0 hT d0 d1 d2
            refine wide_call (starts_c x W0) ?_
            rintro e W4 ⟨rfl, rfl⟩
            have hT4 := hT0.alloc (.cells #[.int .i64 x.off, .int .i64 x.per, .int .i64 x.len] 77)
            have hbx := Blk.new W0 77 #[.int .i64 x.off, .int .i64 x.per, .int .i64 x.len]
            have hbi4 := hbi.alloc (.cells #[.int .i64 x.off, .int .i64 x.per, .int .i64 x.len] 77)
            have hbs4 := hbs.alloc (.cells #[.int .i64 x.off, .int .i64 x.per, .int .i64 x.len] 77)
            have hz4 : W0.heap.size < (W0.alloc (.cells #[.int .i64 x.off, .int .i64 x.per, .int .i64 x.len] 77)).heap.size := by simp
            generalize W0.alloc (.cells #[.int .i64 x.off, .int .i64 x.per, .int .i64 x.len] 77) = W4 at hT4 hbx hbi4 hbs4 hz4 ⊢
            generalize W0.heap.size = Bx at hz0 hbx hz4 ⊢
            clear hT0 hbi hbs hz0
            generalize wr.heap.size = Bi at hbi4 hbs4 ⊢
            gi_wp2_with fail
            refine wpIn_rangeK (gf := 92) (lb := #[.pointer (some ⟨Bx, 0, none⟩)]) rfl (enters_of Try.func92 (by kernel_rfl) rfl)
              (fun j => #[.int .i64 (x.tk j)]) (fun _ => rfl) (cn + 1) Bx hz4 (starts1_seq x hx _ Bx W4 hz4 hbx)
              (fun j W => j ≤ cn ∧ TI w1 W4 Bo Bi Bx F sl x k Ds j W) (fun c W => c = .exit 6 ∧ TI w1 W4 Bo Bi Bx F sl x k Ds cn W)
              (OwnFrom.and (ownFrom_pure _ _) (TI.own hT4)) (OwnFrom.and (ownFrom_pure _ _) (TI.ownc hT4)) (fun j W h => by omega) (by omega) ⟨Nat.zero_le _, TI.start hT4 hbi4 hbs4 hbx⟩
              (fun j => { tmps := #[.agg #[.string name, .int .i64 mem, .int .i64 F, .slice A ps.length c], .slice A' os.length c', .pointer (some ⟨w.heap.size, 0, none⟩), undef, u4, u5, .slice (some ⟨b, o, none⟩) sl.length c1, .int .i64 0, .func (.func 47) #[] #[], u9, u10, .pointer (some ⟨Bo, 0, none⟩), .pointer (some ⟨Bi, 0, none⟩), .pointer (some ⟨Bi + 1, 0, none⟩), .int .i64 (x.tk j), .tuple #[.slice (some ⟨b, o, none⟩) sl.length c1, .int .i64 0], .agg #[.string name, .int .i64 mem, .int .i64 F, .slice A ps.length c], .slice A' os.length c', .tuple #[.slice (some ⟨b, o, none⟩) sl.length c1, .int .i64 0], .slice (some ⟨b, o, none⟩) sl.length c1, .int .i64 0, .int .i64 0, .bool false, undef, .slice (some ⟨b, o, none⟩) sl.length c1, .int .i64 sl.length, .int .i64 sl.length, .bool false, u28, u29, u30, u31, u32, u33, u34, u35, u36, u37, u38, u39, u40, u41, u42, u43, u44, u45, .slice (some ⟨b, o, none⟩) sl.length c1, .int .i64 sl.length, .int .i64 k, .bool true, .int .i64 k, .pointer (some ⟨b, o + k * 3, none⟩), .agg #[.int .i64 x.off, .int .i64 x.per, .int .i64 x.len], .agg #[.int .i64 x.off, .int .i64 x.per, .int .i64 x.len], .func (.func 92) #[] #[.pointer (some ⟨Bx, 0, none⟩)], .int .i64 (x.tk j), undef, undef, undef, undef, undef, undef, undef, undef, undef, undef, undef, undef, z68, undef, undef], defers := [] })
              ?assign ?body ?stop
            case assign =>
              intro l j W KK hK
              gi_wp2
              exact hK
            case body =>
              rintro l j W ⟨hj, hI⟩
              have q2 : W.cell? ⟨w.heap.size, 2, none⟩ = some (.int .i64 F) := (hI.below.cell (p := ⟨w.heap.size, 2, none⟩) hk1.lt).trans (hk1.cell 2)
              have hj2 := Hti.out j
              obtain ⟨t0, t1⟩ := tk_bd hx j (by omega)
              by_cases hjc : j < cn
              · have htl := hj2.2 hjc
                clear hj2
                obtain ⟨v', hbo, hown⟩ := hI.out
                obtain ⟨i0, hi0, hz0, hz1', hz2⟩ := info_parts info31
                have p0 : W.cell? ⟨Bo, 0, none⟩ = some v' := hbo.cell 0
                have pf : W.frozen? ⟨Bo, 0, none⟩ = false := hbo.frozen 0
                have p1 : W.cell? ⟨Bi, 0, none⟩ = some (.int .i64 k) := hI.bi.cell 0
                have p2 : W.cell? ⟨Bi + 1, 2, none⟩ = some (.int .i64 x.len) := hI.bs.cell 2
                have hnl : ((winsTo F sl k) ++ winsS k x j).length ≤ 20000 := by rw [List.length_append, winsS_len]; omega
                have hsz := hI.size
                have hbo4 := hT4.size
                have Hn := Lib.hid (show winsTo F sl k ++ winsS k x (j + 1) = (winsTo F sl k ++ winsS k x j) ++ [⟨k, x.tk j, x.len⟩] by rw [winsS_succ, List.append_assoc])
                have Hstep := Lib.hid (fun (w2 : World) (v2 : Value) (o : Obj) hg ho => TI.step (w2 := w2) (v2 := v2) (o := o) hI hBo hbo4 hbo hown hg ho)
                have hne26 : v'.ownBlock ≠ some Bo := own_blk_ne hown hbo (by decide)
                have Hne26 := Lib.hid hne26
                have Hbo := Lib.hid hbo
                clear hI hbo hne26
                rw [Hn.out] at Hstep
                generalize winsTo F sl k ++ winsS k x j = ws at hown hnl Hn Hstep
                generalize x.tk j = T at *
                gi_wp2_with (gi_at_builtin; refine wpListIn_append_own _ rfl (.tmp 60) (.tmp 66) 84 rfl (Bo + 1) 107 i0 (.agg #[.int .i64 0, .int .i64 0, .int .i64 0]) 3 24 Try.underlying84 hi0 hz0 hz1' hz2 rfl (by decide) _ ws.length _ rfl (hown.alloc _) ⟨W.heap.size, 0, none⟩ 1 1 [.int .i64 k, .int .i64 T, .int .i64 x.len] rfl rfl ?c1 ?c2 ?c3 ?c4 ?c5 ?_)
                case c1 => exact World.news_of_block (cs := #[.int .i64 k, .int .i64 T, .int .i64 x.len]) (t := 107) (fr := (0, 0)) (heap_alloc_new W _)
                case c2 => intro u hu; simp at hu; rcases hu with rfl | rfl | rfl <;> rfl
                case c3 => unfold maxLen; omega
                case c4 => omega
                case c5 => simp; omega
                intro v2 w2 hown2 hgrow _
                have r0 : w2.cell? ⟨Bo, 0, none⟩ = some v' := ((Hbo.out.alloc _).grown hgrow (fun e => Hne26.out e.symm)).cell 0
                have rf : w2.frozen? ⟨Bo, 0, none⟩ = false := ((Hbo.out.alloc _).grown hgrow (fun e => Hne26.out e.symm)).frozen 0
                obtain ⟨Av2, nv2, cv2, rfl⟩ : ∃ Av2 nv2 cv2, v2 = .slice Av2 nv2 cv2 := by
                  rcases hown2.2 with ⟨rfl, _⟩ | ⟨g, cap, cur, rfl, _⟩
                  · exact ⟨_, _, _, rfl⟩
                  · exact ⟨_, _, _, rfl⟩
                have hfin := Hstep.out w2 (.slice Av2 nv2 cv2) _ hgrow (by simpa [cellsG, Win.tri] using hown2)
                have Hfin := Lib.hid hfin
                clear hfin hown2 hgrow
                gi_wp2
                exact ⟨Hfin.out.1, Hfin.out.2.1, by omega, Hfin.out.2.2⟩
              · obtain rfl : j = cn := by omega
                have htl : ¬ x.tk j < F := fun h => hjc (hj2.1 h)
                clear hj2
                generalize x.tk j = T at *
                gi_wp2
                exact ⟨KeepsOthers.refl _, rfl, hI⟩
            case stop =>
              rintro cc W ⟨rfl, hI⟩ hK
              have hout := hI.out
              rw [← Hws.out] at hout
              obtain ⟨v', hbo, hown⟩ := hout
              have hTn : TL w1 Bo F sl (k + 1) v' (W4.heap.size :: Ds) W := ⟨by omega, hI.below, Nat.le_trans hT4.size hI.size, hbo, hown, List.nodup_cons.2 ⟨fun hD => by have := (hI.marks _ hD).1; omega, hT4.nodup⟩, fun D hD => by
                rcases List.mem_cons.1 hD with rfl | hD
                · exact ⟨hT4.size, hK⟩
                · exact ⟨(hT4.marks D hD).1, (hI.marks D hD).2⟩⟩
              clear hbo hown hI hK hT4
              gi_wp2
              exact ⟨⟨k + 1, v', W4.heap.size :: Ds, hTn, _, _, _, _, _, _, _, _, _, rfl⟩, by simp [intOf]; omega⟩
          · have hkl : k = sl.length := by have := hT.le; omega
            subst hkl
            have p0 : wr.cell? ⟨Bo, 0, none⟩ = some v := hT.out.cell 0
            have hwl := winsTo_len hok.ok hF2 sl.length (Nat.le_refl _)
            have hord := ordered_c v (winsTo F sl sl.length) (Bo + 1) wr (OwnWin.of_own rfl hT.own) hT.size (by omega)
            gi_wp2_with fail
            refine wide_call hord ?_
            rintro e w' ⟨Af, cf, l', rfl, hperm, hsort, hrd', hB', hko⟩
            have Hsort := Lib.hid hsort
            clear hord hsort p0
            gi_wp2
            refine leaves_marks Ds w' (Bo + 1) hT.nodup (fun D hD => ⟨(hT.marks D hD).1, hko.same D _ (hT.marks D hD).2 rfl⟩) fun W' hS => ?_
            refine ⟨.tuple #[.slice Af (winsTo F sl sl.length).length cf, .int .i64 0], by simp [results, Try.f57, go_sem], Af, cf, (l', 0), by rw [hperm.length_eq], ?_, hS.rd hrd', ?_⟩
            · exact .inr (.inr ⟨He.out, (by rw [Hsl.out]; exact hnc.out), rfl, by rw [Hsl.out]; exact ⟨hperm, Hsort.out⟩⟩)
            · exact hB1.trans ((hT.below.trans (hB'.mono (by omega))).trans (hS.below.mono (by omega)) |>.mono hB1.size)
  · have hne : ((slotsV F ps os).2 != 0) = true := by simpa using he
    have Hv : Hid (TableV F ps os ([], (slotsV F ps os).2)) := .inl ⟨he, rfl⟩
    clear he
    generalize (slotsV F ps os).2 = er at *
    gi_wp2
    exact ⟨.tuple #[.slice none 0 0, .int .i64 er], by simp [results, Try.f57, go_sem], none, 0, ([], er), rfl, Hv.out, RdG.nil, hB1⟩
end Go.Proofs.Ytlmbffnmjfbglab
