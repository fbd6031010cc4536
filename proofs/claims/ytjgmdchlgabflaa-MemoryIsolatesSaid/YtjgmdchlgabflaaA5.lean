/- The contract of Layout. -/
import Derived.Test.YtjgmdchlgabflaaA4
namespace Go.Proofs.Ytjgmdchlgabflaa
open Go.ChangeShapes Go.WideShapes Go.ChangeAt Go.RowKit

/-- what 'append' leaves: the old row, or a new block. -/
theorem info42 : (Try.prog.info? 42).map (fun i => (i.zero, i.size, i.bytes)) = some (some (.agg #[.int .i64 0, .int .i64 0, .int .i64 0]), 3, 24) := by kernel_rfl
def Reg.cells (r : Reg) : List Value := [.int .i64 r.part, .int .i64 r.base, .int .i64 r.size]
theorem cells3_length (l : List Reg) : (l.flatMap Reg.cells).length = l.length * 3 := by
  induction l with
  | nil => rfl
  | cons r l ih => simp [Reg.cells, ih]; omega
theorem cells3_get : ∀ (l : List Reg) (i : Nat) (h : i < l.length), (l.flatMap Reg.cells)[i * 3]? = some (.int .i64 l[i].part) ∧ (l.flatMap Reg.cells)[i * 3 + 1]? = some (.int .i64 l[i].base) ∧ (l.flatMap Reg.cells)[i * 3 + 2]? = some (.int .i64 l[i].size)
  | r :: l, 0, _ => ⟨rfl, rfl, rfl⟩
  | r :: l, i + 1, h => by
    have ih := cells3_get l i (by simpa using h)
    have e : ∀ j, (List.flatMap Reg.cells (r :: l))[j + 3]? = (List.flatMap Reg.cells l)[j]? := fun j => by simp [Reg.cells]
    rw [show (i + 1) * 3 = i * 3 + 3 from by omega, show i * 3 + 3 + 1 = i * 3 + 1 + 3 from by omega, show i * 3 + 3 + 2 = i * 3 + 2 + 3 from by omega, e, e, e]
    simpa using ih

theorem RdReg.of_own {w : World} {base : Nat} {v : Value} {n : Nat} {l : List Reg} (hn : n = l.length) (h : w.ownsRow base 42 3 v n (l.flatMap Reg.cells)) : ∃ A c, v = .slice A n c ∧ RdReg w w.heap.size A l := by
  subst hn
  rcases h.2 with ⟨rfl, h0⟩ | ⟨g, cap, cur, rfl, _, hh, _⟩
  · exact ⟨none, 0, by rw [h0], fun h => by omega⟩
  · refine ⟨_, cap, rfl, fun _ => ⟨g, 0, rfl, Blk.lt (t := 42) hh, fun i hi => ?_⟩⟩
    have hc := h.cells (g := g) rfl
    obtain ⟨q0, q1, q2⟩ := cells3_get l i hi
    have e : ∀ j, (⟨g, 0, none⟩ : Addr).add j = ⟨g, 0 + j, none⟩ := fun j => by unfold Addr.add; split <;> simp_all
    have a0 := hc _ _ q0
    have a1 := hc _ _ q1
    have a2 := hc _ _ q2
    rw [e] at a0 a1 a2
    exact ⟨a0, a1, a2⟩

def layStep (st : List Reg × Int) (m : Int) : List Reg × Int := (st.1 ++ [⟨st.1.length, (st.2 + 8 - 1) / 8 * 8, m⟩], (st.2 + 8 - 1) / 8 * 8 + m)
def layTo (ms : List Int) (k : Nat) : List Reg × Int := (ms.take k).foldl layStep ([], 0)
theorem layTo_zero (ms : List Int) : layTo ms 0 = ([], 0) := rfl
theorem layTo_succ (ms : List Int) (k : Nat) (h : k < ms.length) : layTo ms (k + 1) = layStep (layTo ms k) ms[k] := by
  unfold layTo; rw [List.take_succ_eq_append_getElem h, List.foldl_append]; rfl
theorem layTo_len (ms : List Int) (k : Nat) (h : k ≤ ms.length) : (layTo ms k).1.length = k := by
  induction k with
  | zero => rfl
  | succ k ih => rw [layTo_succ ms k (by omega)]; simp [layStep, ih (by omega)]
theorem layTo_bd (ms : List Int) (hm : ∀ m ∈ ms, 0 ≤ m ∧ m ≤ 4096) (k : Nat) (h : k ≤ ms.length) : 0 ≤ (layTo ms k).2 ∧ (layTo ms k).2 ≤ 4104 * k := by
  induction k with
  | zero => simp [layTo_zero]
  | succ k ih =>
    rw [layTo_succ ms k (by omega)]
    have := ih (by omega)
    have := hm ms[k] (List.getElem_mem _)
    simp only [layStep]
    omega

def layV (mem : Int) (ms : List Int) : List Reg × Int :=
  if sizeB mem && decide (ms.length ≤ 6) && ms.all sizeB then
    if mem < (layTo ms ms.length).2 then ([], 4) else ((layTo ms ms.length).1, 0)
  else ([], 2)

/-- a list of regions and an error. -/
def RetRegs (w : World) (q : List Reg × Int) (e : Ending) (w' : World) : Prop := ∃ A c, e = .returned (.tuple #[.slice A q.1.length c, .int .i64 q.2]) ∧ RdReg w' w'.heap.size A q.1 ∧ Below w.heap.size w w'
theorem retRegs_none {w w' : World} {n : Int} (h : Below w.heap.size w w') : RetRegs w ([], n) (.returned (.tuple #[.slice none 0 0, .int .i64 n])) w' := ⟨none, 0, rfl, fun h => absurd h (by simp), h⟩

set_option maxRecDepth 100000 in
set_option maxHeartbeats 1000000 in
theorem layout_c (name : ByteArray) (mem frame : Int) (l : List Part) (A : Option Addr) (c : Nat) (w : World) (h : RdPart w w.heap.size A l) (hl : l.length ≤ 4611686018427387904) :
    Calls Try.prog 16 #[.agg #[.string name, .int .i64 mem, .int .i64 frame, .slice A l.length c]] w (RetRegs w (layV mem (l.map Part.mem))) := by
  have hW1 : Below w.heap.size w (w.alloc (.cells #[.string name, .int .i64 mem, .int .i64 frame, .slice A l.length c] 33)) := (Below.refl _ w).alloc (Nat.le_refl _) _
  have hz := fun W => size_c mem W
  cases hm : sizeB mem with
  | false =>
    have hv : layV mem (l.map Part.mem) = ([], 2) := by simp [layV, hm]
    rw [hv]
    rw [hm] at hz
    clear hv hm h
    go_enter Try.func16, Try.ntmps16
    go_wp2_with (go_at_call 33; refine (hz _).mono ?_; rintro e w' ⟨rfl, rfl⟩)
    go_ret2
    exact retRegs_none hW1
  | true =>
    rw [hm] at hz
    by_cases h6 : 6 < l.length
    · have hv : layV mem (l.map Part.mem) = ([], 2) := by simp only [layV, List.length_map, show ¬ l.length ≤ 6 from by omega]; simp
      rw [hv]
      clear hv hm h
      go_enter Try.func16, Try.ntmps16
      go_wp2_with (go_at_call 33; refine (hz _).mono ?_; rintro e w' ⟨rfl, rfl⟩)
      go_ret2
      exact retRegs_none hW1
    · have hcon := containsPart_c 35 #[] (fun p => !sizeB p.mem) (enters_of Try.func35 (by kernel_rfl) rfl) l A c _ (layout1_c _) (h.below hW1) hl
      have hany : (l.any fun p => !sizeB p.mem) = !((l.map Part.mem).all sizeB) := by simp [List.all_map, List.any_eq_not_all_not, Function.comp_def]
      cases hall : (l.map Part.mem).all sizeB with
      | false =>
        have hv : layV mem (l.map Part.mem) = ([], 2) := by simp only [layV, hall]; simp
        rw [hv]
        rw [hany, hall] at hcon
        clear hv hm h hany hall
        have h6i : decide ((6 : Int) < (l.length : Int)) = false := by simp; omega
        go_enter Try.func16, Try.ntmps16
        go_wp2_with (go_at_call 33; refine (hz _).mono ?_; rintro e w' ⟨rfl, rfl⟩)
        refine hcon.mono ?_
        rintro e w1 ⟨rfl, hb1⟩
        clear hcon hz
        go_wp2
        go_ret2
        exact retRegs_none (hW1.trans (hb1.mono (by simp)))
      | true =>
        rw [hany, hall] at hcon
        obtain ⟨i0, hi0, hz0, hz1, hz2⟩ := info_parts info42
        generalize hms : l.map Part.mem = ms at hall hany ⊢
        have hlen : ms.length = l.length := by rw [← hms]; simp
        have hbd : ∀ m ∈ ms, 0 ≤ m ∧ m ≤ 4096 := fun m hm' => by have := List.all_eq_true.1 hall m hm'; simpa [sizeB] using this
        have hv : layV mem ms = if mem < (layTo ms ms.length).2 then ([], 4) else ((layTo ms ms.length).1, 0) := by
          simp only [layV, hm, hall, show ms.length ≤ 6 from by omega]; simp
        have Hv := Lib.hid hv
        have hgetm : ∀ k (hk : k < l.length), ∃ hk' : k < ms.length, ms[k] = l[k].mem := fun k hk => ⟨by omega, by subst hms; simp⟩
        have hb0 := Blk.new w 33 #[.string name, .int .i64 mem, .int .i64 frame, .slice A l.length c]
        clear hv hm hany hall hms
        have h6' : l.length ≤ 6 := by omega
        have Hlen := Lib.hid hlen
        have Hbd := Lib.hid hbd
        have Hget := Lib.hid hgetm
        clear hlen hbd hgetm h6
        have h6i : decide ((6 : Int) < (l.length : Int)) = false := by simp; omega
        go_enter Try.func16, Try.ntmps16
        go_wp2_with (go_at_call 33; refine (hz _).mono ?_; rintro e w' ⟨rfl, rfl⟩)
        refine hcon.mono ?_
        rintro e w1 ⟨rfl, hb1⟩
        clear hcon hz
        have B1 := hb0.below hb1 (by simp)
        have hlt1 := B1.lt
        have q1 := B1.cell 1
        have q3 := B1.cell 3
        simp at q1 q3
        have hBw1 := hW1.trans (hb1.mono (by simp))
        have hsz1 := hBw1.size
        clear hW1 hb1 hb0
        go_wp2
        go_loopw [4, 5, 6, 7, 8, 27] (fun v e _ _ _ i wr => ∃ k : Nat, k ≤ l.length ∧ i = .int .i64 k ∧ e = .int .i64 (layTo ms k).2 ∧ wr.ownsRow w1.heap.size 42 3 v k ((layTo ms k).1.flatMap Reg.cells) ∧ Below w1.heap.size w1 wr) (fun _ _ _ _ _ i _ => l.length - (intOf i).toNat)
        case atStart => exact ⟨0, Nat.zero_le _, rfl, rfl, World.ownsRow_nil _ _ _ _, Below.refl _ _⟩
        case round =>
          obtain ⟨k, hk, rfl, rfl, hown, hB⟩ := hrel
          by_cases hlt : k < l.length
          · obtain ⟨b, o, rfl, hb, hc⟩ := ((h.below hBw1).keep hB) (by omega)
            obtain ⟨hkm, hkg⟩ := Hget.out k hlt
            have hck := hc k hlt
            have hbd1 := layTo_bd ms Hbd.out k (by omega)
            have hbd2 := Hbd.out _ (List.getElem_mem hkm)
            have hlen1 := layTo_len ms k (by omega)
            have hsucc := layTo_succ ms k hkm
            rw [hkg] at hbd2 hsucc
            unfold layStep at hsucc
            have Hsucc := Lib.hid hsucc
            have Hlen1 := Lib.hid hlen1
            clear hc h hlen1 hsucc hkm hkg
            generalize l[k] = r at hck hbd2 Hsucc
            generalize layTo ms k = st at hown hbd1 Hsucc Hlen1 ⊢
            obtain ⟨rs, en⟩ := st
            simp only at hown hbd1 Hsucc Hlen1 ⊢
            have c0 := hck 0 _ rfl
            have c1 := hck 1 _ rfl
            have c2 := hck 2 _ rfl
            have c3 := hck 3 _ rfl
            have c4 := hck 4 _ rfl
            have c5 := hck 5 _ rfl
            have c6 := hck 6 _ rfl
            have c7 := hck 7 _ rfl
            have c8 := hck 8 _ rfl
            have c9 := hck 9 _ rfl
            rw [Nat.add_zero] at c0
            clear hck
            obtain ⟨hbd1, hbd1'⟩ := hbd1
            obtain ⟨hbd2, hbd2'⟩ := hbd2
            have hz1' := hB.size
            go_wp2_with (at_builtin; refine wpList_append_own _ rfl _ _ 22 rfl w1.heap.size 42 i0 (.agg #[.int .i64 0, .int .i64 0, .int .i64 0]) 3 24 Try.underlying22 hi0 hz0 hz1 hz2 rfl (by decide) _ _ _ rfl ((hown.alloc _).alloc _) ⟨wr.heap.size + 1, 0, none⟩ 1 1 [.int .i64 k, .int .i64 ((en + 8 - 1) / 8 * 8), .int .i64 r.mem] rfl rfl ?c1 ?c2 ?c3 ?c4 ?c5 ?_)
            case c1 => exact World.news_of_block (cs := #[.int .i64 k, .int .i64 ((en + 8 - 1) / 8 * 8), .int .i64 r.mem]) (t := 42) (fr := (0, 0)) (by have e := heap_alloc_new (wr.alloc (.cells #[.string r.name, .int .i64 r.period, .int .i64 r.length, .int .i64 r.mem, .slice r.semas.a r.semas.n r.semas.c, .int .i64 r.events, .int .i64 r.boards, .slice r.bufs.a r.bufs.n r.bufs.c, .slice r.ports.a r.ports.n r.ports.c, .slice r.procs.a r.procs.n r.procs.c] 38)) (.cells #[.int .i64 k, .int .i64 ((en + 8 - 1) / 8 * 8), .int .i64 r.mem] 42); rw [World.size_alloc] at e; exact e)
            case c2 => simp [Value.oneCell']
            case c3 => unfold maxLen; omega
            case c4 => omega
            case c5 => simp; omega
            intro v' w2 hown2 hgrow _
            have hne : ∀ g, u4.ownBlock = some g → w1.heap.size ≤ g ∧ g < wr.heap.size := fun g hg => hown.lt g hg
            have B2 : Blk w2 wr.heap.size 38 _ := ((Blk.new wr 38 _).alloc _).grown hgrow (fun e => by have := hne _ e.symm; omega)
            have d3 := B2.cell 3
            simp at d3
            have hB2 : Below w1.heap.size w1 w2 := ((hB.alloc hz1' _).alloc (by simp; omega) _).grown hgrow (by simp; omega) (fun g hg => (hne g hg).1)
            clear B2 hgrow hne hown c0 c1 c2 c3 c4 c5 c6 c7 c8 c9
            go_wp2
            go_roundw
            case rel =>
              refine ⟨k + 1, by omega, by go_num, ?_, ?_, hB2⟩
              · rw [Hsucc.out]
              · rw [Hsucc.out]
                have e : List.flatMap Reg.cells (rs ++ [{ part := (rs.length : Int), base := (en + 8 - 1) / 8 * 8, size := r.mem }]) = List.flatMap Reg.cells rs ++ [.int .i64 k, .int .i64 ((en + 8 - 1) / 8 * 8), .int .i64 r.mem] := by
                  rw [List.flatMap_append, Hlen1.out]; rfl
                rw [e]
                exact hown2
            case measure => simp [intOf]; omega
          · obtain rfl : k = l.length := by omega
            have hfl : layTo ms l.length = layTo ms ms.length := by rw [Hlen.out]
            have hlen1 := layTo_len ms ms.length (Nat.le_refl _)
            rw [hfl] at hown ⊢
            have hB' := hBw1.trans (hB.mono hsz1)
            have e1 := (hB.cell (p := ⟨w.heap.size, 1, none⟩) hlt1).trans q1
            by_cases hend : mem < (layTo ms ms.length).2
            · have hv2 : layV mem ms = ([], 4) := by rw [Hv.out, if_pos hend]
              have Hv2 := Lib.hid hv2
              clear hv2 Hv hown hlen1 hfl
              generalize (layTo ms ms.length).2 = en at hend
              go_wp2
              go_ret2
              rw [Hv2.out]
              exact retRegs_none hB'
            · have hv2 : layV mem ms = ((layTo ms ms.length).1, 0) := by rw [Hv.out, if_neg hend]
              have Hv2 := Lib.hid hv2
              have Hlen1 := Lib.hid hlen1
              clear hv2 Hv hlen1 hfl
              have hex := RdReg.of_own (show l.length = (layTo ms ms.length).1.length by rw [Hlen1.out, Hlen.out]) hown
              obtain ⟨A2, c2, hv, hrd⟩ := hex
              clear hown
              rw [hv]
              clear hv
              have Hl : Hid (l.length = (layTo ms ms.length).1.length) := by rw [Hid, Hlen1.out, Hlen.out]
              generalize layTo ms ms.length = st at *
              obtain ⟨rs, en⟩ := st
              simp only at *
              go_wp2
              go_ret2
              rw [Hv2.out]
              exact ⟨A2, c2, by simp [Hl.out], hrd, hB'⟩
end Go.Proofs.Ytjgmdchlgabflaa
