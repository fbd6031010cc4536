/- Texts D1 D2, joined. -/
import Derived.ScopeJumps
import Derived.Test.YtknojjlfgjkbiaaGreatDoorH04
set_option linter.unusedSimpArgs false
set_option linter.unusedVariables false
set_option linter.unusedSectionVars false
/- The order of the units: the walk. -/
namespace Go.Proofs.YtknojjlfgjkbiaaGreatDoor
open Go.ChangeShapes Go.WideShapes Go.ChangeAt Go.RowKit
attribute [local go_sem] Oper.semAt_some

theorem all_c (A : Option Addr) (n c : Nat) (u : ByteArray) (w : World) :
    Calls Tryz.prog 34 #[.slice A n c, .string u] w fun e w' => e = .returned (.func (.func 60) #[] #[.pointer (some ⟨w.heap.size, 0, none⟩), .pointer (some ⟨w.heap.size + 1, 0, none⟩)]) ∧
      w' = (w.alloc (.cells #[.slice A n c] 77)).alloc (.cells #[.string u] 9) := by
  go_enter Tryz.func34, Tryz.ntmps34
  go_wp2
  go_ret
  exact ⟨rfl, rfl⟩
def unitsOf (L : List CsV) : List ByteArray := L.map (·.c.unit)
section
variable {P : Program} {a : Act} {w : World} {Q : Exit → Act → World → Prop}
/-- a scope in which the run jumps back to one label: the way to the label is walked whatever comes behind, the rest once. -/
theorem wp_scope_jumps2 {c R : Code} (l : Nat) (J : Act → World → Prop) (μ : Act → World → Nat) (hf : findLabel c l = some (.seq .skip R))
    (pass : ∀ a w, J a w → R.wp P (Exit.jump l (fun a' w' => J a' w' ∧ μ a' w' < μ a w) Q) a w)
    (first : ∀ Q' : Exit → Act → World → Prop, (∀ a w, J a w → R.wp P Q' a w) → c.wp P Q' a w) : (Code.scope c).wp P Q a w := by
  refine wp_scope_jumps l J μ hf (first _ fun a w hJ => wp_mono (pass a w hJ) ?_) fun a w hJ => wp_seq (wp_skip (pass a w hJ))
  rintro e a' w' hq
  cases e with
  | goto l' => exact ⟨hq.1, hq.2.1⟩
  | _ => exact hq
end
abbrev csOf (L : List CsV) : List Cs := L.map (·.c)
/-- a unit is free if all its causes' exclusions are listed. -/
theorem free_hits (L : List CsV) (out : List ByteArray) (u : ByteArray) : ((upTo L u L.length).all fun y => y.x.c.excl.all fun x => memB x out) = freeV (csOf L) out u := by
  rw [Bool.eq_iff_iff, free_iff, List.all_eq_true]
  constructor
  · intro h c hc e x hx
    obtain ⟨y, hy, rfl⟩ := List.mem_map.1 hc
    obtain ⟨i, hi, rfl⟩ := List.getElem_of_mem hy
    have := h ⟨i, L[i], List.getElem?_eq_getElem hi, e⟩ ((upTo_mem _ _).2 hi)
    rw [List.all_eq_true] at this
    exact memB_iff.1 (this x hx)
  · intro h y hy
    rw [List.all_eq_true]
    intro x hx
    have hm : y.x ∈ L := List.mem_of_getElem? y.h
    exact memB_iff.2 (h y.x.c (List.mem_map_of_mem hm) y.hu x hx)
/-- a unit can be listed next. -/
def canB (L : List CsV) (out : List ByteArray) (x : CsV) : Bool := !memB x.c.unit out && freeV (csOf L) out x.c.unit
theorem next_at {L : List CsV} {out : List ByteArray} {k : Nat} (hk : k < L.length) (h : canB L out L[k] = true) (hall : ∀ j (h : j < L.length), j < k → canB L out L[j] = false) : nextV (csOf L) out = some L[k].c.unit := by
  unfold nextV
  have : (csOf L).find? (fun c => !memB c.unit out && freeV (csOf L) out c.unit) = some L[k].c := by
    rw [List.find?_map, Option.map_eq_some_iff]
    refine ⟨L[k], ?_, rfl⟩
    rw [List.find?_eq_some_iff_getElem]
    exact ⟨h, k, hk, rfl, fun j hj => by
      have := hall j (by omega) hj
      show (!canB L out L[j]) = true
      rw [this]; rfl⟩
  exact congrArg (Option.map Ca.unit) this
theorem next_no {L : List CsV} {out : List ByteArray} (hall : ∀ j (h : j < L.length), canB L out L[j] = false) : nextV (csOf L) out = none := by
  unfold nextV
  rw [Option.map_eq_none_iff, List.find?_eq_none]
  intro c hc
  obtain ⟨x, hx, rfl⟩ := List.mem_map.1 hc
  obtain ⟨j, hj, rfl⟩ := List.getElem_of_mem hx
  have := hall j hj
  unfold canB memB at this
  simpa using this
theorem order_step {l : List Cs} {out : List ByteArray} {u : ByteArray} (h : nextV l out = some u) (hlen : out.length ≤ l.length) (ho : orderL l (l.length + 1 - out.length) out = orderV l) : orderL l (l.length + 1 - (out ++ [u]).length) (out ++ [u]) = orderV l := by
  rw [show l.length + 1 - out.length = (l.length + 1 - (out ++ [u]).length) + 1 by simp; omega] at ho
  simp only [orderL, h] at ho
  exact ho
theorem order_end {l : List Cs} {out : List ByteArray} (h : nextV l out = none) (hlen : out.length ≤ l.length) (ho : orderL l (l.length + 1 - out.length) out = orderV l) : out = orderV l := by
  rw [show l.length + 1 - out.length = (l.length - out.length) + 1 by omega] at ho
  simp only [orderL, h] at ho
  exact ho
theorem rdStr_of_own {W : World} {base c : Nat} {A : Option Addr} {l : List ByteArray} (h : W.ownsRow base 9 1 (.slice A l.length c) l.length (l.map Value.string)) : RdStr W W.heap.size A l := fun hn => by
  obtain ⟨g, cap, hv, _, hlt⟩ := h.form hn
  have hA : A = some ⟨g, 0, none⟩ := by injection hv
  subst hA
  refine ⟨g, 0, rfl, hlt, fun i hi => ?_⟩
  have := h.cells (g := g) rfl i (.string l[i]) (by simp [hi])
  rwa [add_none] at this
theorem Shut.str {B : Nat} {W W' : World} {A : Option Addr} {l : List ByteArray} (h : Shut B W W') (hr : RdStr W W.heap.size A l) : RdStr W' W'.heap.size A l := fun hn => by
  obtain ⟨b, o, rfl, hb, hc⟩ := hr hn
  refine ⟨b, o, rfl, Nat.lt_of_lt_of_le hb h.size, fun i hi => ?_⟩
  obtain ⟨ob, ho, hcl⟩ := cells_of_cell (hc i hi)
  exact (World.cell?_of_block ((h.cells _ _ ho hcl).trans ho.symm)).trans (hc i hi)
/-- what holds at the label. -/
structure OrdSt (w : World) (L : List CsV) (out : List ByteArray) (v : Value) (Ds : List Nat) (W : World) : Prop where
  below : Below w.heap.size w W
  size : w.heap.size + 3 ≤ W.heap.size
  box : Blk W (w.heap.size + 1) 79 #[.map (some w.heap.size)]
  listed : CntMap KS W w.heap.size out
  units : CntMap KS W (w.heap.size + 2) (unitsOf L)
  own : W.ownsRow (w.heap.size + 3) 9 1 v out.length (out.map Value.string)
  nodup : Ds.Nodup
  marks : ∀ D ∈ Ds, w.heap.size + 3 ≤ D ∧ W.heap[D]? = some (.deferred (some []))
  ord : OrdOk (csOf L) out
  fuel : orderL (csOf L) ((csOf L).length + 1 - out.length) out = orderV (csOf L)
section
variable {w : World} {L : List CsV} {out : List ByteArray} {v : Value} {Ds : List Nat} {W W' : World}
theorem OrdSt.len (h : OrdSt w L out v Ds W) : out.length ≤ L.length := by
  have := len_le _ _ h.ord.nodup h.ord.sub
  have := len_units (csOf L)
  simp at this
  omega
/-- new blocks, and one that is changed: none of these. -/
theorem OrdSt.next (h : OrdSt w L out v Ds W) (hb : Below W.heap.size W W') : OrdSt w L out v Ds W' where
  below := h.below.trans (hb.mono h.below.size)
  size := Nat.le_trans h.size hb.size
  box := h.box.below hb h.box.lt
  listed := h.listed.next hb
  units := h.units.next hb
  own := h.own.kept (below_grown (row := none) hb) (by
    rcases h.own.2 with ⟨rfl, _⟩ | ⟨g, cap, cur, rfl, _, hh, _⟩
    · exact .inl rfl
    · exact .inr (fun e => by cases e))
  nodup := h.nodup
  marks := fun D hD => ⟨(h.marks D hD).1, (hb.block D (Array.getElem?_eq_some_iff.1 (h.marks D hD).2).1).trans (h.marks D hD).2⟩
  ord := h.ord
  fuel := h.fuel
end
theorem frame_of (n : Nat) (T : Array Value) (h : T.size = n) : ∃ z : Nat → Value, T = ((List.range n).map z).toArray ∧ ∀ i, z i = T.getD i undef := by
  refine ⟨fun i => T.getD i undef, ?_, fun _ => rfl⟩
  apply Array.ext
  · simp [h]
  · intro i h1 h2
    simp [Array.getD, h1]
/-- a frame of order, at the label. -/
structure FJ (w : World) (A : Option Addr) (n c : Nat) (v : Value) (Ds : List Nat) (a : Act) : Prop where
  size : a.tmps.size = 80
  s0 : a.tmps.getD 0 undef = .slice A n c
  s4 : a.tmps.getD 4 undef = v
  s5 : a.tmps.getD 5 undef = .pointer (some ⟨w.heap.size + 1, 0, none⟩)
  s6 : a.tmps.getD 6 undef = .map (some (w.heap.size + 2))
  defers : a.defers = Ds.map markD
/-- .. in the loop behind it. -/
structure FL (w : World) (A : Option Addr) (n c : Nat) (v : Value) (Ds : List Nat) (k : Nat) (a : Act) : Prop where
  j : FJ w A n c v Ds a
  s30 : a.tmps.getD 30 undef = .slice A n c
  s31 : a.tmps.getD 31 undef = .int .i64 n
  s32 : a.tmps.getD 32 undef = .int .i64 k
theorem FJ.lit {w : World} {A : Option Addr} {n c : Nat} {v : Value} {Ds : List Nat} {a : Act} (h : FJ w A n c v Ds a) : ∃ z : Nat → Value, a = { tmps := List.toArray [.slice A n c, z 1, z 2, z 3, v, .pointer (some ⟨w.heap.size + 1, 0, none⟩), .map (some (w.heap.size + 2)), z 7, z 8, z 9, z 10, z 11, z 12, z 13, z 14, z 15, z 16, z 17, z 18, z 19, z 20, z 21, z 22, z 23, z 24, z 25, z 26, z 27, z 28, z 29, z 30, z 31, z 32, z 33, z 34, z 35, z 36, z 37, z 38, z 39, z 40, z 41, z 42, z 43, z 44, z 45, z 46, z 47, z 48, z 49, z 50, z 51, z 52, z 53, z 54, z 55, z 56, z 57, z 58, z 59, z 60, z 61, z 62, z 63, z 64, z 65, z 66, z 67, z 68, z 69, z 70, z 71, z 72, z 73, z 74, z 75, z 76, z 77, z 78, z 79], defers := Ds.map markD } := by
  obtain ⟨T, d⟩ := a
  obtain ⟨h1, h2, h3, h4, h5, h6⟩ := h
  simp only at h1 h2 h3 h4 h5 h6
  obtain ⟨z, hz, hg⟩ := frame_of 80 T h1
  refine ⟨z, ?_⟩
  rw [← hg] at h2 h3 h4 h5
  rw [h6, hz, ← h2, ← h3, ← h4, ← h5]
  rfl
theorem FL.lit {w : World} {A : Option Addr} {n c : Nat} {v : Value} {Ds : List Nat} {k : Nat} {a : Act} (h : FL w A n c v Ds k a) : ∃ z : Nat → Value, a = { tmps := List.toArray [.slice A n c, z 1, z 2, z 3, v, .pointer (some ⟨w.heap.size + 1, 0, none⟩), .map (some (w.heap.size + 2)), z 7, z 8, z 9, z 10, z 11, z 12, z 13, z 14, z 15, z 16, z 17, z 18, z 19, z 20, z 21, z 22, z 23, z 24, z 25, z 26, z 27, z 28, z 29, .slice A n c, .int .i64 n, .int .i64 k, z 33, z 34, z 35, z 36, z 37, z 38, z 39, z 40, z 41, z 42, z 43, z 44, z 45, z 46, z 47, z 48, z 49, z 50, z 51, z 52, z 53, z 54, z 55, z 56, z 57, z 58, z 59, z 60, z 61, z 62, z 63, z 64, z 65, z 66, z 67, z 68, z 69, z 70, z 71, z 72, z 73, z 74, z 75, z 76, z 77, z 78, z 79], defers := Ds.map markD } := by
  obtain ⟨T, d⟩ := a
  obtain ⟨⟨h1, h2, h3, h4, h5, h6⟩, h7, h8, h9⟩ := h
  simp only at h1 h2 h3 h4 h5 h6 h7 h8 h9
  obtain ⟨z, hz, hg⟩ := frame_of 80 T h1
  refine ⟨z, ?_⟩
  rw [← hg] at h2 h3 h4 h5 h7 h8 h9
  rw [h6, hz, ← h8, ← h9, ← h3, ← h4, ← h5]
  rw [show (.slice A n c : Value) = z 0 from h2.symm]
  simp only [List.range_eq_range', List.range', List.map]
  rw [h7, ← h2]
theorem RS.ord {w : World} {L : List CsV} {out : List ByteArray} {v : Value} {Ds : List Nat} {W4 W : World} {Bf : Nat} {f f' : Value} (h : RS W4 Bf 4 f W) (hS : OrdSt w L out v Ds W4) (hf : Blk W4 Bf 4 #[f']) (hB : w.heap.size + 3 ≤ Bf) : OrdSt w L out v Ds W where
  below := h.below hS.below hS.below.size (by omega)
  size := Nat.le_trans hS.size h.size
  box := h.blk hS.box (by omega)
  listed := hS.listed.same (h.block _ hS.listed.lt (by omega))
  units := hS.units.same (h.block _ hS.units.lt (by omega))
  own := by
    have hg : W4.grownBy W (some Bf) := ⟨h.os, h.tape, h.output, h.size, fun k hk hn => h.block k hk (fun e => hn (by rw [e]))⟩
    refine hS.own.kept hg (.inr ?_)
    exact own_blk_ne hS.own hf (by decide)
  nodup := hS.nodup
  marks := fun D hD => ⟨(hS.marks D hD).1, (h.block D (Array.getElem?_eq_some_iff.1 (hS.marks D hD).2).1 (fun e => by
    have := (hS.marks D hD).2
    rw [e, show W4.heap[Bf]? = _ from hf] at this
    cases this)).trans (hS.marks D hD).2⟩
  ord := hS.ord
  fuel := hS.fuel
theorem OrdSt.mark {w : World} {L : List CsV} {out : List ByteArray} {v : Value} {Ds : List Nat} {W : World} {D lo : Nat} (h : OrdSt w L out v Ds W) (hlo : ∀ E ∈ Ds, E < lo) (hD : lo ≤ D) (hw : w.heap.size + 3 ≤ D) (hK : W.heap[D]? = some (.deferred (some []))) : OrdSt w L out v (D :: Ds) W :=
  { h with
    nodup := List.nodup_cons.2 ⟨fun hm => by have := hlo D hm; omega, h.nodup⟩
    marks := fun E hE => by
      rcases List.mem_cons.1 hE with rfl | hE
      · exact ⟨hw, hK⟩
      · exact h.marks E hE }
theorem info9 : (Tryz.prog.info? 9).map (fun i => (i.zero, i.size, i.bytes)) = some (some (.string ⟨#[]⟩), 1, 16) := by kernel_rfl
theorem own_blk_def {w : World} {base : Nat} {e : TypeId} {size n g : Nat} {v : Value} {xs : List Value} {o : Obj} (h : w.ownsRow base e size v n xs) (hg : w.heap[g]? = some o) (hn : o.isCells = false) : v.ownBlock ≠ some g := by
  rcases h.2 with ⟨rfl, _⟩ | ⟨g', cap, cur, rfl, _, hh, _⟩
  · simp [Value.ownBlock]
  · intro he
    have : g' = g := by simpa [Value.ownBlock] using he
    subst this
    rw [hh] at hg
    injection hg with hg
    subst hg
    cases hn
/-- the next unit is listed and appended. -/
theorem OrdSt.step {w : World} {L : List CsV} {out : List ByteArray} {v v' : Value} {Ds : List Nat} {W w1 w2 : World} {u : ByteArray} {o : Obj} (h : OrdSt w L out v Ds W) (hu : nextV (csOf L) out = some u)
    (hm : CntMap KS w1 w.heap.size (out ++ [u])) (hg : W.grownBy w1 (some w.heap.size)) (hown1 : (w1.alloc o).ownsRow (w.heap.size + 3) 9 1 v out.length (out.map Value.string))
    (hown : w2.ownsRow (w.heap.size + 3) 9 1 v' (out.length + 1) (out.map Value.string ++ [.string u])) (hg2 : (w1.alloc o).grownBy w2 v.ownBlock) : OrdSt w L (out ++ [u]) v' Ds w2 := by
  have hs1 := hg.size
  have hs2 := hg2.size
  simp at hs2
  have hsz := h.size
  have hnb : ∀ g, g < w.heap.size + 3 → some g ≠ v.ownBlock := fun g hlt e => by have := (hown1.lt g e.symm).1; omega
  have hb1 : Below w.heap.size w (w1.alloc o) := (h.below.grown hg (by omega) (fun j e => by cases e; omega)).alloc (by omega) _
  have hob := next_some hu
  refine ⟨hb1.grown hg2 (by simp; omega) (fun g hg => by have := (hown1.lt g hg).1; omega), by omega, ?_, ?_, ?_, ?_, h.nodup, fun D hD => ?_, ?_, ?_⟩
  · exact ((h.box.grown hg (by simp)).alloc o).grown hg2 (hnb _ (by omega))
  · exact (hm.alloc o).kept hg2 (hnb _ (by omega))
  · exact ((h.units.kept hg (by simp)).alloc o).kept hg2 (hnb _ (by omega))
  · simpa using hown
  · have hd := h.marks D hD
    have hlt := (Array.getElem?_eq_some_iff.1 hd.2).1
    have e1 : w1.heap[D]? = some (.deferred (some [])) := (hg.block D hlt (by simp; omega)).trans hd.2
    have e2 : (w1.alloc o).heap[D]? = some (.deferred (some [])) := (Below.heap_alloc _ _ _ (by omega)).trans e1
    exact ⟨hd.1, (hg2.block D (by simp; omega) (fun e => own_blk_def hown1 e2 rfl e.symm)).trans e2⟩
  · exact h.ord.push hob.1 hob.2.1 hob.2.2
  · exact order_step hu (by have := h.len; simpa using this) h.fuel
/-- whether all exclusions so far are listed. -/
def allIn (out : List ByteArray) {L : List CsV} {u : ByteArray} (pre : List (Hit L u)) : Bool := pre.all fun y => y.x.c.excl.all fun s => memB s out

end Go.Proofs.YtknojjlfgjkbiaaGreatDoor
/- The order of the units: the walk (causes).order. -/
namespace Go.Proofs.YtknojjlfgjkbiaaGreatDoor
open Go.ChangeShapes Go.WideShapes Go.ChangeAt Go.RowKit
attribute [local go_sem] Oper.semAt_some

set_option maxRecDepth 100000 in
set_option maxHeartbeats 4000000 in
theorem order_c2 (L : List CsV) (A : Option Addr) (c : Nat) (w : World) (h : RdCs w w.heap.size A L) (ok : ∀ x ∈ L, OkC x.c) (hl : L.length ≤ 100000) :
    Calls Tryz.prog 31 #[.slice A L.length c] w fun e w' => ∃ A' c', e = .returned (.tuple #[.slice A' (orderV (csOf L)).length c', .bool (okV (csOf L))]) ∧
      RdStr w' w'.heap.size A' (orderV (csOf L)) ∧ Below w.heap.size w w' ∧ (orderV (csOf L)).length ≤ c' := by
  have H := Lib.hid h
  have Hok := Lib.hid ok
  have hmm := @run_makeMap Tryz.prog
  clear h ok
  refine (callsIn_wide (n := 9)).1 ?_
  refine callsIn_of_wp_marks Tryz.func31 rfl trivial ?_ rfl
  simp only [Tryz.ntmps31, List.size_toArray, List.length_cons, List.length_nil, Nat.reduceAdd, Nat.reduceSub, Array.replicate_succ, Array.replicate_zero, List.push_toArray, List.append_toArray, List.nil_append, List.cons_append]
  refine wpIn_wide.2 ?_
  go_wp2_with fail
  refine wp_scope_jumps2 0 (fun a wr => ∃ (out : List ByteArray) (v : Value) (Ds : List Nat), OrdSt w L out v Ds wr ∧ FJ w A L.length c v Ds a)
    (fun a _ => match a.tmps.getD 4 undef with | .slice _ n _ => L.length + 1 - n | _ => 0) rfl ?pass ?first
  case first =>
    intro Q' hR
    have HR := Lib.hid hR
    clear hR
    go_wp2_with fail
    go_loopw [20] (fun t wr => ∃ k : Nat, k ≤ L.length ∧ t = .int .i64 k ∧ CntMap KS wr (w.heap.size + 2) (unitsOf (L.take k)) ∧ CntMap KS wr w.heap.size [] ∧ Blk wr (w.heap.size + 1) 79 #[.map (some w.heap.size)] ∧ Below w.heap.size w wr ∧ w.heap.size + 3 ≤ wr.heap.size) (fun t wr => L.length - (intOf t).toNat)
    case atStart =>
      refine ⟨0, Nat.zero_le _, rfl, ?_, (CntMap.made w).next (((Below.refl _ _).alloc (Nat.le_refl _) _).alloc (by simp) _), ?_, ?_, by simp⟩
      · have := CntMap.made (M := KS) ((w.alloc (.map #[] 0)).alloc (.cells #[.map (some w.heap.size)] 79))
        rw [World.size_alloc, World.size_alloc] at this
        exact this
      · have := Blk.new (w.alloc (.map #[] 0)) 79 #[.map (some w.heap.size)]
        rw [World.size_alloc] at this
        exact this.alloc _
      · exact (((Below.refl _ w).alloc (Nat.le_refl _) _).alloc (by simp) _).alloc (by simp; omega) _
    case round =>
      obtain ⟨k, hk, rfl, hcu, hcl, hbx, hB, hsz⟩ := hrel
      by_cases hlt : k < L.length
      · obtain ⟨b, o, rfl, hb, hc⟩ := (H.out.keep hB) (by omega)
        obtain ⟨d0, d1, d2, _⟩ := hc k hlt
        have hu := (Hok.out L[k] (List.getElem_mem hlt)).u
        have hbw : b < wr.heap.size := World.block_lt_of_cell? wr _ d0
        have htk : unitsOf (L.take (k + 1)) = unitsOf (L.take k) ++ [L[k].c.unit] := by
          unfold unitsOf
          rw [List.take_succ_eq_append_getElem hlt, List.map_append]; rfl
        have hln : (unitsOf (L.take k)).length < maxLen := by unfold unitsOf maxLen; simp; omega
        have Htk := Lib.hid htk
        have Hcu := Lib.hid hcu
        have Hcl := Lib.hid hcl
        have Hbx := Lib.hid hbx
        have HB := Lib.hid hB
        clear hc htk hcu hcl hbx hB
        generalize L[k] = x at *
        have hw := Hcu.out.alloc (.cells #[.string x.c.unit, .slice x.n.a x.n.n x.n.c, .slice x.x.a x.x.n x.x.c] 29)
        have hcl' := cnt_le x.c.unit (unitsOf (L.take k))
        have hcb : (cntB x.c.unit (unitsOf (L.take k)) : Int) ≤ 9223372036854775806 := by unfold maxLen at hln; omega
        have hc0 : (0 : Int) ≤ (cntB x.c.unit (unitsOf (L.take k)) : Int) := by omega
        have Hw := Lib.hid hw
        clear hw hcl'
        go_wp2_with (first
          | (at_lookup; refine wpList_cnt (M := KS) rfl (.tmp 24) (.tmp 26) rfl rfl Hw.out x.c.unit hu rfl ?_)
          | (at_mapUpdate; refine wpList_push (M := KS) rfl (.tmp 24) (.tmp 26) (.tmp 28) rfl rfl Hw.out hln x.c.unit hu rfl rfl ?_; intro w1 hw1 hg1))
        have hsz1 := hg1.size
        have hne : w.heap.size ≠ w.heap.size + 2 := by omega
        go_roundw
        case rel =>
          refine ⟨k + 1, by omega, by go_num, by rw [Htk.out]; exact hw1, (Hcl.out.alloc _).kept hg1 (by simp; omega), (Hbx.out.alloc _).grown hg1 (by simp), ?_, by simp at hsz1; omega⟩
          exact (HB.out.alloc HB.out.size _).grown hg1 (by simp; have := HB.out.size; omega) (fun j e => by cases e; omega)
        case measure => simp [intOf]; omega
      · obtain rfl : k = L.length := by omega
        rw [List.take_length] at hcu
        have hst : OrdSt w L [] (.slice none 0 0) [] wr := ⟨hB, hsz, hbx, hcl, hcu, World.ownsRow_nil _ _ _ _, List.nodup_nil, fun D h => absurd h (by simp), OrdOk.nil _, rfl⟩
        have Hst := Lib.hid hst
        clear hcu hcl hbx hB hst
        go_wp2_with fail
        refine wp_label ?_
        rename_i hK
        refine hK _ _ (HR.out _ _ ?_)
        exact ⟨[], _, [], Hst.out, ⟨rfl, rfl, rfl, rfl, rfl, rfl⟩⟩
  case pass =>
    rintro a wr ⟨out, v, Ds, hS, hF⟩
    obtain ⟨z, rfl⟩ := hF.lit
    clear hF
    go_wp2_with fail
    refine wp_loop (fun a wr => ∃ (k : Nat) (Ds : List Nat), k ≤ L.length ∧ OrdSt w L out v Ds wr ∧ FL w A L.length c v Ds k a ∧ Hid (∀ j (h : j < L.length), j < k → canB L out L[j] = false)) (fun a _ => L.length - (intOf (a.tmps.getD 32 undef)).toNat) ?h0 ?round
    case h0 => exact ⟨0, Ds, Nat.zero_le _, hS, ⟨⟨rfl, rfl, rfl, rfl, rfl, rfl⟩, rfl, rfl, rfl⟩, fun j _ h => absurd h (by omega)⟩
    case round =>
      clear hS
      rintro a w3 ⟨k, Ds, hk, hS, hF, hall⟩
      obtain ⟨z, rfl⟩ := hF.lit
      clear hF
      by_cases hlt : k < L.length
      · have hcs := H.out.keep hS.below
        obtain ⟨b, o, rfl, hb, hc⟩ := hcs (by omega)
        obtain ⟨d0, d1, d2, _⟩ := hc k hlt
        have hu := (Hok.out L[k] (List.getElem_mem hlt)).u
        have hbw : b < w3.heap.size := World.block_lt_of_cell? w3 _ d0
        have hlen := hS.len
        have hnx : canB L out L[k] = true → nextV (csOf L) out = some L[k].c.unit := fun hq => next_at hlt hq hall.out
        have hno : canB L out L[k] = false → ∀ j (h : j < L.length), j < k + 1 → canB L out L[j] = false := fun hq => forall_succ (p := fun x => canB L out x = false) hall.out hq
        have hcn : canB L out L[k] = (!memB L[k].c.unit out && freeV (csOf L) out L[k].c.unit) := rfl
        have Hnx := Lib.hid hnx
        have Hno := Lib.hid hno
        have Hcn := Lib.hid hcn
        have HS := Lib.hid hS
        have hsz := hS.size
        have hgt := cnt_gt L[k].c.unit out
        have Hgt := Lib.hid hgt
        clear hc hnx hno hcn hall hS hcs hgt
        generalize L[k] = x at *
        have c5 : (w3.alloc (.cells #[.string x.c.unit, .slice x.n.a x.n.n x.n.c, .slice x.x.a x.x.n x.x.c] 29)).cell? ⟨w.heap.size + 1, 0, none⟩ = some (.map (some w.heap.size)) := (HS.out.box.alloc _).cell 0
        have hml := HS.out.listed.alloc (.cells #[.string x.c.unit, .slice x.n.a x.n.n x.n.c, .slice x.x.a x.x.n x.x.c] 29)
        have Hml := Lib.hid hml
        clear hml
        cases hm : memB x.c.unit out with
        | true =>
          have hgt := Hgt.out.trans hm
          have hq := Lib.hid (Hno.out (by rw [Hcn.out, hm]; rfl))
          have HS1 := Lib.hid (HS.out.next ((Below.refl _ w3).alloc (Nat.le_refl _) (.cells #[.string x.c.unit, .slice x.n.a x.n.n x.n.c, .slice x.x.a x.x.n x.x.c] 29)))
          clear Hgt hm Hnx Hno Hcn
          go_wp2_with (at_lookup; refine wpList_cnt (M := KS) rfl (.tmp 36) (.tmp 38) rfl rfl Hml.out x.c.unit hu rfl ?_)
          exact ⟨⟨k + 1, Ds, by omega, HS1.out, ⟨⟨rfl, rfl, rfl, rfl, rfl, rfl⟩, rfl, rfl, by simp⟩, hq⟩, by simp [intOf]; omega⟩
        | false =>
          have hgt := Hgt.out.trans hm
          have hcn := Hcn.out
          rw [hm, Bool.not_false, Bool.true_and] at hcn
          rw [hcn] at Hnx Hno
          have hfr := free_hits L out x.c.unit
          have Hfr := Lib.hid hfr
          clear Hgt hm Hcn hcn hfr
          go_wp2_with (at_lookup; refine wpList_cnt (M := KS) rfl (.tmp 36) (.tmp 38) rfl rfl Hml.out x.c.unit hu rfl ?_)
          refine (all_c _ _ _ _ _).mono ?_
          rintro e w4 ⟨rfl, hw4⟩
          have hB4 : Below w3.heap.size w3 w4 := by rw [hw4]; exact ((((Below.refl _ w3).alloc (Nat.le_refl _) _).alloc (by simp) _).alloc (by simp; omega) _).alloc (by simp; omega) _
          have hz4 : w4.heap.size = w3.heap.size + 4 := by rw [hw4]; simp
          have hb10 : Blk w4 w3.heap.size 29 #[.string x.c.unit, .slice x.n.a x.n.n x.n.c, .slice x.x.a x.x.n x.x.c] := by rw [hw4]; exact (((Blk.new w3 _ _).alloc _).alloc _).alloc _
          have hbf : Blk w4 (w3.heap.size + 1) 4 #[.bool true] := by
            rw [hw4]
            have := Blk.new (w3.alloc (.cells #[.string x.c.unit, .slice x.n.a x.n.n x.n.c, .slice x.x.a x.x.n x.x.c] 29)) 4 #[.bool true]
            rw [World.size_alloc] at this
            exact (this.alloc _).alloc _
          have hbl : Blk w4 (w3.heap.size + 2) 77 #[.slice (some ⟨b, o, none⟩) L.length c] := by
            rw [hw4]
            have := Blk.new ((w3.alloc (.cells #[.string x.c.unit, .slice x.n.a x.n.n x.n.c, .slice x.x.a x.x.n x.x.c] 29)).alloc (.cells #[.bool true] 4)) 77 #[.slice (some ⟨b, o, none⟩) L.length c]
            rw [World.size_alloc, World.size_alloc] at this
            exact this.alloc _
          have hbu : Blk w4 (w3.heap.size + 3) 9 #[.string x.c.unit] := by
            rw [hw4]
            have := Blk.new (((w3.alloc (.cells #[.string x.c.unit, .slice x.n.a x.n.n x.n.c, .slice x.x.a x.x.n x.x.c] 29)).alloc (.cells #[.bool true] 4)).alloc (.cells #[.slice (some ⟨b, o, none⟩) L.length c] 77)) 9 #[.string x.c.unit]
            rw [World.size_alloc, World.size_alloc, World.size_alloc] at this
            exact this
          have HS4 := Lib.hid (HS.out.next hB4)
          have HL4 := Lib.hid (H.out.keep (HS.out.next hB4).below)
          have H10 := Lib.hid hb10
          have Hbf := Lib.hid hbf
          have Hbl := Lib.hid hbl
          have Hbu := Lib.hid hbu
          have Hz4 := Lib.hid hz4
          clear hw4 hB4 hb10 hbf hbl hbu hz4 HS d0 d1 d2 c5 Hml
          go_wp2_with fail
          have hz4 := Hz4.out
          refine (wpIn_wide (n := 9)).1 ?_
          refine wpIn_rangeFunc_ownH (F := Fence.wide) rfl (by omega) (gf := 60) (lb := #[.pointer (some ⟨w3.heap.size + 2, 0, none⟩), .pointer (some ⟨w3.heap.size + 3, 0, none⟩)]) rfl trivial (enters_of Tryz.func60 (by kernel_rfl) rfl)
            (encs := Hit.enc (L := L) (u := x.c.unit)) (all1_seq L x.c.unit (some ⟨b, o, none⟩) c w.heap.size (w3.heap.size + 2) (w3.heap.size + 3) (9 - 1) w4 (by omega) (by omega) (by omega) (by omega) Hbl.out Hbu.out HL4.out (by omega))
            (fun h1 h2 => h1.trans h2) (KpA.put (by omega) (by omega) (by omega)) (Below.refl _ _) (fun _ => rfl)
            (fun pre W => RS w4 (w3.heap.size + 1) 4 (.bool (allIn out pre)) W) (fun _ _ _ => False) (RS.own (by omega)) (fun _ _ _ _ _ hs _ _ => hs) (RS.refl Hbf.out)
            (fun y a' W => ∃ Bx, w4.heap.size ≤ Bx ∧ Blk W Bx 29 #[.string y.x.c.unit, .slice y.x.n.a y.x.n.n y.x.n.c, .slice y.x.x.a y.x.x.n y.x.x.c] ∧ a' = { tmps := (((List.toArray [.slice (some ⟨b, o, none⟩) L.length c, z 1, z 2, z 3, v, .pointer (some ⟨w.heap.size + 1, 0, none⟩), .map (some (w.heap.size + 2)), z 7, z 8, z 9, .pointer (some ⟨w3.heap.size, 0, none⟩), .pointer (some ⟨w3.heap.size + 1, 0, none⟩), z 12, z 13, z 14, z 15, z 16, z 17, z 18, z 19, z 20, z 21, z 22, z 23, z 24, z 25, z 26, z 27, z 28, z 29, .slice (some ⟨b, o, none⟩) L.length c, .int .i64 L.length, .int .i64 k, .bool true, .pointer (some ⟨b, o + k * 3, none⟩), .agg #[.string x.c.unit, .slice x.n.a x.n.n x.n.c, .slice x.x.a x.x.n x.x.c], .map (some w.heap.size), .pointer (some ⟨w3.heap.size, 0, none⟩), .string x.c.unit, .int .i64 (cntB x.c.unit out), .bool false, .slice (some ⟨b, o, none⟩) L.length c, .pointer (some ⟨w3.heap.size, 0, none⟩), .string x.c.unit, .func (.func 60) #[] #[.pointer (some ⟨w3.heap.size + 2, 0, none⟩), .pointer (some ⟨w3.heap.size + 3, 0, none⟩)], z 45, z 46, z 47, z 48, z 49, z 50, z 51, z 52, z 53, z 54, z 55, z 56, z 57, z 58, z 59, z 60, z 61, z 62, z 63, z 64, z 65, z 66, z 67, z 68, z 69, z 70, z 71, z 72, z 73, z 74, z 75, z 76, z 77, z 78, z 79]).setIfInBounds 45 (.int .i64 y.i)).setIfInBounds 46 y.x.val).setIfInBounds 13 (.pointer (some ⟨Bx, 0, none⟩)), defers := [] })
            (fun y a' s X Y row hs hg hr => by obtain ⟨Bx, h1, h2, h3⟩ := hs; exact ⟨Bx, h1, ownFrom_blk (β := Unit) w4.heap.size _ _ _ s X Y row h2 hg hr, h3⟩) ?assign ?body ?done ?stop
          case assign =>
            intro l pre y W K hI hK
            have hs4 := hI.size
            dsimp only [Hit.enc, CsV.val]
            gi_wp2
            exact hK _ _ ((KeepsOthers.alloc _ _).from _) (KpA.of_below ((Below.refl _ W).alloc (Nat.le_refl _) _) (by omega) (by omega) (by omega)) (hI.alloc _) ⟨W.heap.size, hI.size, by simpa using Blk.new W 29 _, rfl⟩
          case body =>
            rintro l pre y a' W hl ⟨r, hr⟩ hI ⟨Bx, hBx, hbx, rfl⟩ hlt2
            simp only [List.setIfInBounds_toArray, List.set_cons_succ, List.set_cons_zero]
            have hx := rd_of (HL4.out.to_ (Nat.le_refl _) fun b i hb => World.cell?_of_block (hI.block b (by omega) (by omega))) y.h
            have hok := Hok.out y.x (List.mem_of_getElem? y.h)
            have p2 : W.cell? ⟨Bx, 2, none⟩ = some (.slice y.x.x.a y.x.c.excl.length y.x.x.c) := by rw [← hx.xl]; exact hbx.cell 2
            have hSW := hI.ord HS4.out Hbf.out (by omega)
            have Hx := Lib.hid hx
            have HokY := Lib.hid hok
            have HSW := Lib.hid hSW
            have HI := Lib.hid hI
            have hxm : y.x.c.excl.length ≤ 9223372036854775807 := by rw [← hx.xl]; exact Nat.le_trans hx.xc hx.xm
            have hIs := hI.size
            clear hx hok hSW hI hbx
            gi_wp2
            gi_loopw [50] (fun t wr => ∃ m : Nat, m ≤ y.x.c.excl.length ∧ t = .int .i64 m ∧ RS W (w3.heap.size + 1) 4 (.bool (allIn out pre && (y.x.c.excl.take m).all fun s => memB s out)) wr) (fun t wr => y.x.c.excl.length - (intOf t).toNat)
            case atStart => exact ⟨0, Nat.zero_le _, rfl, by rw [List.take_zero, List.all_nil, Bool.and_true]; exact RS.refl HI.out.bf⟩
            case round =>
              obtain ⟨m, hm, rfl, hRx⟩ := hrel
              have hSx := hRx.ord HSW.out HI.out.bf (by omega)
              have hszx := hRx.size
              by_cases hltm : m < y.x.c.excl.length
              · have hxx := Hx.out.x
                have hA : ∃ b3 o3, y.x.x.a = some ⟨b3, o3, none⟩ ∧ b3 < wr.heap.size ∧ wr.cell? ⟨b3, o3 + m, none⟩ = some (.string y.x.c.excl[m]) := by
                  obtain ⟨b3, o3, hA, hb3, hc3⟩ := hxx (by omega)
                  have := hc3 m hltm
                  have hlt3 := World.block_lt_of_cell? W _ this
                  exact ⟨b3, o3, hA, by simp at hlt3; omega, (World.cell?_of_block (hRx.block b3 hlt3 (by omega))).trans this⟩
                obtain ⟨b3, o3, hA, hb3, hc3⟩ := hA
                have c5 : wr.cell? ⟨w.heap.size + 1, 0, none⟩ = some (.map (some w.heap.size)) := hSx.box.cell 0
                have f11 := hRx.bf.frozen 0
                have c11 : wr.cell? ⟨w3.heap.size + 1, 0, none⟩ = some (.bool (allIn out pre && (y.x.c.excl.take m).all fun s => memB s out)) := hRx.bf.cell 0
                have hs3 : y.x.c.excl[m].size ≤ maxLen := HokY.out.x _ (List.getElem_mem hltm)
                have hlk := hSx.listed.run_look (M := KS) (y := y.x.c.excl[m]) hs3
                have hgt := cnt_gt y.x.c.excl[m] out
                have htk : (allIn out pre && (y.x.c.excl.take (m + 1)).all fun s => memB s out) = ((allIn out pre && (y.x.c.excl.take m).all fun s => memB s out) && memB y.x.c.excl[m] out) := by
                  rw [List.take_succ_eq_append_getElem hltm, List.all_append, Bool.and_assoc]
                  congr 2
                  simp
                have hlk : (Instr.lookup 79 (.map (some w.heap.size)) (.string y.x.c.excl[m]) false).run Tryz.prog wr = .ok (.int .i64 (cntB y.x.c.excl[m] out)) wr := hlk
                rw [hA]
                have Htk := Lib.hid htk
                have HRx := Lib.hid hRx
                clear htk hRx hSx hxx hA
                generalize (allIn out pre && (y.x.c.excl.take m).all fun s => memB s out) = q at *
                generalize y.x.c.excl[m] = s at *
                generalize memB s out = q2 at *
                cases q with
                | true =>
                  gi_wp2
                  go_roundw
                  case rel => exact ⟨m + 1, by omega, by go_num, by rw [Htk.out, Bool.true_and]; exact HRx.out.set_ _⟩
                  case measure => simp [intOf]; omega
                | false =>
                  gi_wp2
                  go_roundw
                  case rel => exact ⟨m + 1, by omega, by go_num, by rw [Htk.out, Bool.false_and]; exact HRx.out.set_ _⟩
                  case measure => simp [intOf]; omega
              · obtain rfl : m = y.x.c.excl.length := by omega
                rw [List.take_length] at hRx
                have hRz : RS W (w3.heap.size + 1) 4 (.bool (allIn out (pre ++ [y]))) wr := by
                  have e : allIn out (pre ++ [y]) = (allIn out pre && y.x.c.excl.all fun s => memB s out) := by simp [allIn]
                  rw [e]; exact hRx
                have HRz := Lib.hid hRz
                clear hRx hSx hRz
                gi_wp2
                exact ⟨(HRz.out.keeps HI.out.bf).from _, HRz.out.kpa (by omega) (by omega) (by omega) (by omega) (by omega) (by omega), HI.out.trans HRz.out⟩
          case done =>
            rintro D ys W hD rfl hI hK
            have hfr : allIn out (upTo L x.c.unit L.length) = freeV (csOf L) out x.c.unit := Hfr.out
            have hDw : w.heap.size + 3 ≤ D := by omega
            have hSW0 := hI.ord HS4.out Hbf.out (by omega)
            have hlo : ∀ E ∈ Ds, E < w4.heap.size := fun E hE => (Array.getElem?_eq_some_iff.1 (HS4.out.marks E hE).2).1
            have hSW := hSW0.mark hlo hD hDw hK
            have hIs := hI.size
            have c11 : W.cell? ⟨w3.heap.size + 1, 0, none⟩ = some (.bool (allIn out (upTo L x.c.unit L.length))) := hI.bf.cell 0
            have h10 := hI.blk H10.out (by omega)
            have c10 : W.cell? ⟨w3.heap.size, 0, none⟩ = some (.string x.c.unit) := h10.cell 0
            have c5 : W.cell? ⟨w.heap.size + 1, 0, none⟩ = some (.map (some w.heap.size)) := hSW.box.cell 0
            rw [hfr] at c11
            have HSW := Lib.hid hSW
            have HC10 := Lib.hid h10
            clear hfr hSW0 hSW hI hK hlo h10 hz4 Hz4 HL4 HS4 H10 Hbf Hbl Hbu
            clear Hfr
            cases hq : freeV (csOf L) out x.c.unit with
            | false =>
              rw [hq] at c11
              have hall := Lib.hid (Hno.out hq)
              clear Hno Hnx hq
              go_wp2_with fail
              exact ⟨⟨k + 1, D :: Ds, by omega, HSW.out, ⟨⟨rfl, rfl, rfl, rfl, rfl, rfl⟩, rfl, rfl, by simp⟩, hall⟩, by simp [intOf]; omega⟩
            | true =>
              rw [hq] at c11
              have hnx := Lib.hid (Hnx.out hq)
              clear Hno Hnx hq
              have hcl' := cnt_le x.c.unit out
              have hlen64 : out.length < maxLen := by unfold maxLen; omega
              have hcb : (cntB x.c.unit out : Int) ≤ 9223372036854775806 := by omega
              have hc0 : (0 : Int) ≤ (cntB x.c.unit out : Int) := by omega
              clear hcl'
              have hown := HSW.out.own
              have hSz := HSW.out.size
              obtain ⟨i0, hi0, hz0, hz1, hz2⟩ := info_parts info9
              go_wp2_with (first
                | (at_lookup; refine wpList_cnt (M := KS) rfl (.tmp 63) (.tmp 65) rfl rfl HSW.out.listed x.c.unit hu rfl ?_)
                | (at_mapUpdate; refine wpList_push (M := KS) rfl (.tmp 63) (.tmp 65) (.tmp 67) rfl rfl HSW.out.listed hlen64 x.c.unit hu rfl rfl ?_; intro w1 hw1 hg1; have c12 : w1.cell? ⟨w3.heap.size, 0, none⟩ = some (.string x.c.unit) := (HC10.out.grown hg1 (by simp; omega)).cell 0; have hown1 := (hown.kept hg1 (.inr (fun e => by have := (hown.lt _ e).1; omega))).alloc (.cells #[.string x.c.unit] 9))
                | (at_builtin; refine wpList_append_own _ rfl _ _ 24 rfl (w.heap.size + 3) 9 i0 (.string ⟨#[]⟩) 1 16 Tryz.underlying24 hi0 hz0 hz1 hz2 rfl (by decide) _ _ _ rfl hown1 ⟨w1.heap.size, 0, none⟩ 1 1 [.string x.c.unit] rfl rfl ?c1 ?c2 ?c3 ?c4 ?c5 ?_))
              case c1 =>
                intro j u hj
                rcases j with _ | j
                · simp at hj
                  subst hj
                  exact (Blk.new w1 9 #[.string x.c.unit]).cell 0
                · simp at hj
              case c2 => simp [Value.oneCell']
              case c3 => unfold maxLen; omega
              case c4 => omega
              case c5 => have := hg1.size; have := hSz; simp; omega
              intro v5 w5 hown5 hg5 _
              obtain ⟨g5, cp5, rfl, _⟩ := hown5.form (by omega)
              obtain ⟨Av, cv, rfl⟩ : ∃ Av cv, v = .slice Av out.length cv := by
                rcases HSW.out.own.2 with ⟨rfl, h0⟩ | ⟨g, cap, cur, rfl, _⟩
                · exact ⟨none, 0, by rw [h0]⟩
                · exact ⟨_, _, rfl⟩
              have hS5 := Lib.hid (HSW.out.step hnx.out hw1 hg1 hown1 hown5 hg5)
              clear hown5 hg5 hown1 hg1 hw1 hown HSW
              go_wp2_with fail
              refine wp_goto ?_
              refine ⟨rfl, ⟨_, _, D :: Ds, hS5.out, ⟨rfl, rfl, rfl, rfl, rfl, rfl⟩⟩, ?_⟩
              show L.length + 1 - (out.length + 1) < L.length + 1 - out.length
              omega
          case stop =>
            intro D c' pre W _ _ h _
            exact h.elim
      · have hnx := next_no (L := L) (out := out) fun j hj => hall.out j hj (by omega)
        have hout := order_end hnx (by have := hS.len; simpa using this) hS.fuel
        have hle := hS.units.run_len
        have HS := Lib.hid hS
        have Hout := Lib.hid hout
        have Hlen := Lib.hid hle
        clear hall hS hnx hout hle
        obtain ⟨Av, cv, rfl, hcap⟩ : ∃ Av cv, v = .slice Av out.length cv ∧ out.length ≤ cv := by
          rcases HS.out.own.2 with ⟨rfl, h0⟩ | ⟨g, cap, cur, rfl, _, _, h1, h2, _⟩
          · exact ⟨none, 0, by rw [h0], by omega⟩
          · exact ⟨_, cap, rfl, h1⟩
        have Hcap := Lib.hid hcap
        clear hcap
        have hlw : ∀ ty, (Builtin.len_ #[79] ty #[.map (some (w.heap.size + 2))]).run Tryz.prog w3 = .ok (.int .i64 ((unitsOf L).foldl addU []).length) w3 := fun ty => Hlen.out ty
        go_wp2_with fail
        refine leaves_marks Ds w3 (w.heap.size + 3) HS.out.nodup HS.out.marks fun W' hSh => ?_
        refine ⟨.tuple #[.slice Av out.length cv, .bool ((out.length : Int) == ((unitsOf L).foldl addU []).length)], by simp [results, Tryz.f31, go_sem], Av, cv, ?_, ?_, ?_, ?_⟩
        · have e : ((out.length : Int) == ((unitsOf L).foldl addU []).length) = okV (csOf L) := by
            unfold okV
            rw [← Hout.out]
            have e2 : unitsV (csOf L) = (unitsOf L).foldl addU [] := by simp [unitsV, unitsOf, List.map_map, Function.comp_def]
            rw [e2, Bool.eq_iff_iff, beq_iff_eq, decide_eq_true_eq]
            omega
          rw [e, ← Hout.out]
        · rw [← Hout.out]
          exact hSh.str (rdStr_of_own HS.out.own)
        · exact HS.out.below.trans (hSh.below.mono (by omega))
        · rw [← Hout.out]; exact Hcap.out
theorem order_c (L : List CsV) (A : Option Addr) (c : Nat) (w : World) (h : RdCs w w.heap.size A L) (ok : ∀ x ∈ L, OkC x.c) (hl : L.length ≤ 100000) :
    Calls Tryz.prog 31 #[.slice A L.length c] w fun e w' => ∃ A' c', e = .returned (.tuple #[.slice A' (orderV (csOf L)).length c', .bool (okV (csOf L))]) ∧
      RdStr w' w'.heap.size A' (orderV (csOf L)) ∧ Below w.heap.size w w' := (order_c2 L A c w h ok hl).mono fun _ _ ⟨A', c', h1, h2, h3, _⟩ => ⟨A', c', h1, h2, h3⟩
end Go.Proofs.YtknojjlfgjkbiaaGreatDoor
