/- The offsets that the search carries: one appended, and cut off again; what the inner search leaves. -/
import Derived.Test.YtlmbffnmjfbglabPB
import Derived.Deep.AppendLies
import Derived.ArgAppend
namespace Go.Proofs.Ytlmbffnmjfbglab
open Go.ChangeShapes Go.WideShapes Go.ChangeAt Go.RowKit

/-- an append that makes a new row, at a step of a drawn region. -/
theorem step_append_new {P : Program} (w : World) {ops : Array Oper} {o : Oper} {a : Act} {K : Act → World → Prop} {Q : Exit → Act → World → Prop} {E : Prop} (hgd : o.guard = none) (s x : Operand) (t : TypeId)
    (hop : o.op = Op.call { callee := Callee.builtin Builtin.append, args := #[s, x], argTypes := #[t, t] })
    (e : TypeId) (i : TypeInfo) (z : Value) (size bytes : Nat) (h1 : P.underlying t = some (.slice e)) (h2 : P.info? e = some i) (h3 : i.zero = some z) (h4 : i.size = size) (h5 : i.bytes = bytes) (h6 : z.cells.size = size) (h7 : 0 < size)
    (ao : Option Addr) (n cap : Nat) (olds : List Value) (hs : a.eval s = .slice ao n cap) (hnone : ao = none → n = 0 ∧ cap = 0) (hlo : olds.length = n * size) (holds : ∀ b, ao = some b → ∀ j u, olds[j]? = some u → w.cell? (b.add j) = some u)
    (ad : Addr) (m c : Nat) (news : List Value) (hx : a.eval x = .slice (some ad) m c) (hn : news.length = m * size) (hc : ∀ j u, news[j]? = some u → w.cell? (ad.add j) = some u) (h1c : ∀ u ∈ news, u.oneCell' = true)
    (hfull : cap < n + m) (b1 : n + m ≤ maxLen) (b2 : (n + m) * bytes ≤ 140737488355328) (hm : 0 < m)
    (hK : ∀ g cap' w', w'.ownsRow w.heap.size e size (.slice (some ⟨g, 0, none⟩) (n + m) cap') (n + m) (olds ++ news) → w.grownBy w' none → K (a.put o.dst (.slice (some ⟨g, 0, none⟩) (n + m) cap')) w') :
    if Region.wanted o (yielded ops a.tmps) = true then Oper.wp P o a w K Q else E := by
  have hw : Region.wanted o (yielded ops a.tmps) = true := by simp [Region.wanted, hgd]
  rw [if_pos hw]
  cases ao with
  | some b =>
    obtain ⟨v', w', hrun, r1, r2⟩ := run_append_arg_grows (P := P) w t o.type e i z size bytes h1 h2 h3 h4 h5 h6 h7 b n cap olds hlo (holds b rfl) ad m c news hn hc hfull b1 b2
    obtain ⟨g, cap', rfl, _, _⟩ := r1.form (by omega)
    unfold Oper.wp
    simp [execOp, hop, resolve, invoke, builtin, hs, hx, hrun, Result.andThen]
    exact hK _ _ w' r1 r2
  | none =>
    obtain ⟨rfl, rfl⟩ := hnone rfl
    obtain rfl : olds = [] := List.eq_nil_of_length_eq_zero (by simpa using hlo)
    obtain ⟨v', w', hrun, r1, r2, _⟩ := run_append_own (P := P) w w.heap.size t o.type e i z size bytes h1 h2 h3 h4 h5 h6 h7 (.slice none 0 0) 0 [] (World.ownsRow_nil w _ e size) ad m c news hn hc h1c b1 b2 (Nat.le_refl _)
    obtain ⟨g, cap', rfl, _, _⟩ := r1.form (by omega)
    unfold Oper.wp
    simp [execOp, hop, resolve, invoke, builtin, hs, hx, hrun, Result.andThen]
    have hk := hK _ _ w' r1 r2
    rw [Nat.zero_add] at hk
    exact hk
section
variable {w : World} {Bs : Nat} {name : ByteArray} {mem F : Int} {A : Option Addr} {ps : List Part} {c n : Nat} {W W' w2 : World} {os os' : List Int} {t t' : Int} {cl : List Claim} {V : Value} {L : List CV} {Ao Ao' : Option Addr} {co co' g cap : Nat}
/-- an offset appended to the search's. -/
theorem RI0.off (h : RI0 w Bs name mem F A ps c n W os t cl V L Ao co) (k : Int) (hgr : W.grownBy w2 none) (hown : w2.ownsRow W.heap.size 3 1 (.slice (some ⟨g, 0, none⟩) (os.length + 1) cap) (os.length + 1) (os.map (Value.int .i64) ++ [.int .i64 k])) :
    RI0 w Bs name mem F A ps c n (w2.setCell ⟨Bs, 4, none⟩ (.slice (some ⟨g, 0, none⟩) (os.length + 1) cap)) (os ++ [k]) t cl V L (some ⟨g, 0, none⟩) cap ∧ KeepsOthers W (w2.setCell ⟨Bs, 4, none⟩ (.slice (some ⟨g, 0, none⟩) (os.length + 1) cap)) ∧
    ∀ g' ty cs, g' ≠ Bs → Blk W g' ty cs → Blk (w2.setCell ⟨Bs, 4, none⟩ (.slice (some ⟨g, 0, none⟩) (os.length + 1) cap)) g' ty cs := by
  have hz := h.size
  have hlt := h.lt
  have hg : Gr (fun b => b = Bs) W (w2.setCell ⟨Bs, 4, none⟩ (.slice (some ⟨g, 0, none⟩) (os.length + 1) cap)) := (Gr.of_grown hgr fun k e => by cases e).trans (Gr.setCell _ _ _ rfl)
  obtain ⟨g', cap', cur, e, hgB, hgg, hcap⟩ : ∃ g' cap' cur, Value.slice (some ⟨g, 0, none⟩) (os.length + 1) cap = .slice (some ⟨g', 0, none⟩) (os.length + 1) cap' ∧ W.heap.size ≤ g' ∧ w2.heap[g']? = some (.cells cur 3 (0, 0)) ∧ os.length + 1 ≤ cap' := by
    rcases hown.2 with ⟨e, _⟩ | ⟨g', cap', cur, e, hb, hh, hc, _⟩
    · cases e
    · exact ⟨g', cap', cur, e, hb, hh, hc⟩
  injection e with e _ ec
  injection e with e
  injection e with e
  subst e ec
  have hgne : g ≠ Bs := by omega
  have hg2 : (w2.setCell ⟨Bs, 4, none⟩ (.slice (some ⟨g, 0, none⟩) (os.length + 1) cap)).heap[g]? = w2.heap[g]? := Below.heap_setCell _ _ _ _ hgne
  have hfo : OT (w2.setCell ⟨Bs, 4, none⟩ (.slice (some ⟨g, 0, none⟩) (os.length + 1) cap)) (some ⟨g, 0, none⟩) (os ++ [k]) := fun b o e _ => by
    cases e
    exact ⟨cur, hg2.trans hgg⟩
  have hsb : SB (w2.setCell ⟨Bs, 4, none⟩ (.slice (some ⟨g, 0, none⟩) (os.length + 1) cap)) Bs name mem F A ps c (some ⟨g, 0, none⟩) (os ++ [k]) cap t := by
    refine ⟨?_, fun hn => ?_, fun _ => ⟨g, 0, rfl, ?_, fun i hi => ?_⟩, fun b o e _ => by cases e; exact hgne, by simpa using hcap⟩
    · have hb := (h.sb.blk.grown hgr (by simp)).set_ 4 (.slice (some ⟨g, 0, none⟩) (os.length + 1) cap)
      rw [show (os ++ [k]).length = os.length + 1 by simp]
      exact hb
    · obtain ⟨b, o, e, hb, hc⟩ := h.sb.pt hn
      exact ⟨b, o, e, Nat.lt_of_lt_of_le hb hg.size, fun i hi j v hv => hg.cell (hc i hi j v hv) (h.fa b o e hn).2⟩
    · have := (Array.getElem?_eq_some_iff.1 hgg).1
      simpa [World.setCell] using this
    · have := hown.cells (g := g) rfl i (.int .i64 (os ++ [k])[i]) (by
        rw [show os.map (Value.int .i64) ++ [.int .i64 k] = (os ++ [k]).map (Value.int .i64) by simp, List.getElem?_map, List.getElem?_eq_getElem hi]
        rfl)
      rw [add_none] at this
      rw [Nat.zero_add]
      rw [World.cell?_setCell_far _ _ _ _ (fun e => hgne e.symm)]
      simpa using this
  exact ⟨h.core hg (fun b _ x => .inl x) hsb hfo, (KeepsOthers.of_grownBy hgr fun j o e => by cases e).trans (KeepsOthers.setCell _ _ _), fun g' ty cs hne hb => hg.blk hb hne⟩
/-- the last offset cut off. -/
theorem RI0.cut {k : Int} (h : RI0 w Bs name mem F A ps c n W (os ++ [k]) t cl V L Ao co) (v : Value) (hv : v = .slice Ao os.length co) :
    RI0 w Bs name mem F A ps c n (W.setCell ⟨Bs, 4, none⟩ v) os t cl V L Ao co ∧ ∀ g' ty cs, g' ≠ Bs → Blk W g' ty cs → Blk (W.setCell ⟨Bs, 4, none⟩ v) g' ty cs := by
  subst hv
  have hg : Gr (fun b => b = Bs) W (W.setCell ⟨Bs, 4, none⟩ (.slice Ao os.length co)) := Gr.setCell _ _ _ rfl
  have hn1 : 0 < (os ++ [k]).length := by simp
  refine ⟨h.core hg (fun b _ x => .inl x) ⟨h.sb.blk.set_ 4 _, fun hn => ?_, fun hn => ?_, fun b o e _ => h.sb.ne b o e hn1, by have := h.sb.cap; simp at this; omega⟩ (fun b o e _ => ?_), fun g' ty cs hne hb => hg.blk hb hne⟩
  · obtain ⟨b, o, e, hb, hc⟩ := h.sb.pt hn
    exact ⟨b, o, e, Nat.lt_of_lt_of_le hb hg.size, fun i hi j v hv => hg.cell (hc i hi j v hv) (h.fa b o e hn).2⟩
  · obtain ⟨b, o, e, hb, hc⟩ := h.sb.of hn1
    refine ⟨b, o, e, Nat.lt_of_lt_of_le hb hg.size, fun i hi => hg.cell ?_ (h.sb.ne b o e hn1)⟩
    have := hc i (by simp; omega)
    rwa [List.getElem_append_left hi] at this
  · obtain ⟨cur, hc⟩ := h.fo b o e hn1
    exact ⟨cur, (hg.block b (Array.getElem?_eq_some_iff.1 hc).1 (h.sb.ne b o e hn1)).trans hc⟩
/-- the search of the next partition is over. -/
theorem RI0.called (h : RI0 w Bs name mem F A ps c n W os t cl V L Ao co) (hgr : W.grownBy W' (some Bs)) (hs : SB W' Bs name mem F A ps c Ao' os co' t') (ho : OT W' Ao' os) {A' : Option Addr} {l : List Claim} (hl : RdCls W' (MadeQ W.heap.size W') A' l) :
    RI0 w Bs name mem F A ps c n W' os t' cl V L Ao' co' ∧ RdCls W' (RQ w W' V) A' l ∧ KeepsOthers W W' ∧ ∀ g' ty cs, g' ≠ Bs → Blk W g' ty cs → Blk W' g' ty cs := by
  have hz := h.size
  have hg : Gr (fun b => b = Bs) W W' := Gr.of_grown hgr fun k e => by injection e with e; exact e.symm
  refine ⟨h.core hg (fun b _ x => .inl x) hs ho, hl.keep fun b ⟨q1, q2⟩ => ⟨fun _ => rfl, by omega, fun e => ?_, q2⟩, KeepsOthers.of_grownBy hgr fun j o e hj => ?_, fun g' ty cs hne hb => hg.blk hb hne⟩
  · injection e with e
    subst e
    have := h.sb.blk
    unfold Blk at this
    rw [this] at hj
    cases hj
    rfl
  · have := (h.ownNe e).2.1
    omega
theorem RI0.keeps (h : RI0 w Bs name mem F A ps c n W os t cl V L Ao co) (hgr : W.grownBy W' (some Bs)) : KeepsOthers W W' := by
  refine KeepsOthers.of_grownBy hgr fun j o e hj => ?_
  injection e with e
  subst e
  have := h.sb.blk
  unfold Blk at this
  rw [this] at hj
  cases hj
  rfl
theorem RI0.stopped (h : RI0 w Bs name mem F A ps c n W os t cl V L Ao co) (hgr : W.grownBy W' (some Bs)) : w.grownBy W' (some Bs) :=
  (Gr.of_grown (X := fun b => b = Bs) hgr fun k e => by injection e with e; exact e.symm).grown h.grown fun k _ x => x
/-- of the claims' arrays below, behind an append's argument. -/
theorem RdCls.below {A' : Option Addr} {l : List Claim} (hb : Below W.heap.size W W') (h : RdCls W (RQ w W V) A' l) : RdCls W' (RQ w W' V) A' l :=
  h.keep fun b ⟨q1, q2, o, q3, q4⟩ => by
    have e := hb.block b (Array.getElem?_eq_some_iff.1 q3).1
    exact ⟨fun _ => World.cell?_of_block e, q1, q2, o, e.trans q3, q4⟩
end
end Go.Proofs.Ytlmbffnmjfbglab
