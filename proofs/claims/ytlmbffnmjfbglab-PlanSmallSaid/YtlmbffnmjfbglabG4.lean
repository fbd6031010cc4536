/- Texts P9 PA PB PC Q1 Q2 Q3 Q0, joined. -/
import Derived.Deep.AppendLies
import Derived.ArgAppend
import Derived.Test.YtlmbffnmjfbglabG3
import Derived.Test.YtlmbffnmjfbglabG1
set_option linter.unusedSimpArgs false
set_option linter.unusedVariables false
/- What the rounds of the search keep. -/
namespace Go.Proofs.Ytlmbffnmjfbglab
open Go.ChangeShapes Go.WideShapes Go.ChangeAt Go.RowKit

/-- a world that has grown, and changed at the blocks of X alone. -/
structure Gr (X : Nat → Prop) (w w' : World) : Prop where
  os : w'.os = w.os
  tape : w'.tape = w.tape
  output : w'.output = w.output
  size : w.heap.size ≤ w'.heap.size
  block : ∀ k, k < w.heap.size → ¬ X k → w'.heap[k]? = w.heap[k]?
theorem Gr.refl (X : Nat → Prop) (w : World) : Gr X w w := ⟨rfl, rfl, rfl, Nat.le_refl _, fun _ _ _ => rfl⟩
theorem Gr.trans {X : Nat → Prop} {a b c : World} (h : Gr X a b) (k : Gr X b c) : Gr X a c :=
  ⟨k.os.trans h.os, k.tape.trans h.tape, k.output.trans h.output, Nat.le_trans h.size k.size, fun i hi hx => (k.block i (Nat.lt_of_lt_of_le hi h.size) hx).trans (h.block i hi hx)⟩
theorem Gr.mono {X Y : Nat → Prop} {a b : World} (h : Gr X a b) (hx : ∀ k, k < a.heap.size → X k → Y k) : Gr Y a b :=
  ⟨h.os, h.tape, h.output, h.size, fun i hi hy => h.block i hi fun x => hy (hx i hi x)⟩
theorem Gr.of_grown {X : Nat → Prop} {a b : World} {row : Option Nat} (h : a.grownBy b row) (hx : ∀ k, row = some k → X k) : Gr X a b :=
  ⟨h.os, h.tape, h.output, h.size, fun i hi hn => h.block i hi fun e => hn (hx i e.symm)⟩
theorem Gr.of_below {X : Nat → Prop} {a b : World} (h : Below a.heap.size a b) : Gr X a b := ⟨h.os, h.tape, h.output, h.size, fun i hi _ => h.block i hi⟩
theorem Gr.alloc (X : Nat → Prop) (w : World) (o : Obj) : Gr X w (w.alloc o) := .of_below ((Below.refl _ w).alloc (Nat.le_refl _) _)
theorem Gr.setCell {X : Nat → Prop} (w : World) (a : Addr) (v : Value) (h : X a.block) : Gr X w (w.setCell a v) :=
  ⟨rfl, rfl, rfl, by simp [World.setCell], fun k _ hx => Below.heap_setCell w a v k (fun e => hx (e ▸ h))⟩
theorem Gr.grown {X : Nat → Prop} {w a b : World} {r : Nat} (h : w.grownBy a (some r)) (k : Gr X a b) (hx : ∀ k, k < w.heap.size → X k → k = r) : w.grownBy b (some r) :=
  ⟨k.os.trans h.os, k.tape.trans h.tape, k.output.trans h.output, Nat.le_trans h.size k.size, fun i hi hn => (k.block i (Nat.lt_of_lt_of_le hi h.size) (fun x => hn (by rw [hx i hi x]))).trans (h.block i hi hn)⟩
theorem Gr.cell {X : Nat → Prop} {a b : World} (h : Gr X a b) {p : Addr} {v : Value} (hv : a.cell? p = some v) (hx : ¬ X p.block) : b.cell? p = some v :=
  (World.cell?_of_block (h.block p.block (World.block_lt_of_cell? a p hv) hx)).trans hv
theorem Gr.blk {X : Nat → Prop} {a b : World} (h : Gr X a b) {g : Nat} {t : TypeId} {cs : Array Value} (hb : Blk a g t cs) (hx : ¬ X g) : Blk b g t cs := (h.block g hb.lt hx).trans hb

/-- blocks of sub-claims: made in the call, other than the claims' own row. -/
def RQ (w W : World) (V : Value) (b : Nat) : Prop := w.heap.size + 3 ≤ b ∧ V.ownBlock ≠ some b ∧ ∃ o, W.heap[b]? = some o ∧ o.isCells = true
/-- what the rounds keep. -/
structure RI0 (w : World) (Bs : Nat) (name : ByteArray) (mem F : Int) (A : Option Addr) (ps : List Part) (c n : Nat) (W : World) (os : List Int) (t : Int) (cl : List Claim) (V : Value) (L : List CV) (Ao : Option Addr) (co : Nat) : Prop where
  grown : w.grownBy W (some Bs)
  size : w.heap.size + 3 ≤ W.heap.size
  b0 : Blk W w.heap.size 65 #[.pointer (some ⟨Bs, 0, none⟩)]
  b1 : Blk W (w.heap.size + 1) 29 #[V]
  b2 : Blk W (w.heap.size + 2) 3 #[.int .i64 n]
  sb : SB W Bs name mem F A ps c Ao os co t
  lt : Bs < w.heap.size
  fa : ∀ b o, A = some ⟨b, o, none⟩ → 0 < ps.length → b < w.heap.size ∧ b ≠ Bs
  fo : OT W Ao os
  own : W.ownsRow (w.heap.size + 3) 35 4 V cl.length (L.flatMap CV.cells)
  cvs : CVs W (RQ w W V) L cl
section
variable {w : World} {Bs : Nat} {name : ByteArray} {mem F : Int} {A : Option Addr} {ps : List Part} {c n : Nat} {W W' : World} {os os' : List Int} {t t' : Int} {cl : List Claim} {V V' : Value} {L : List CV} {Ao Ao' : Option Addr} {co co' : Nat}
theorem RI0.ownNe (h : RI0 w Bs name mem F A ps c n W os t cl V L Ao co) {b : Nat} (hb : V.ownBlock = some b) : w.heap.size + 3 ≤ b ∧ b < W.heap.size ∧ ∃ cur, W.heap[b]? = some (.cells cur 35) := by
  rcases h.own.2 with ⟨rfl, _⟩ | ⟨g, cap, cur, rfl, hg, hh, _⟩
  · simp [Value.ownBlock] at hb
  · simp only [Value.ownBlock] at hb
    injection hb with hb
    subst hb
    exact ⟨hg, (Array.getElem?_eq_some_iff.1 hh).1, cur, hh⟩
/-- the blocks of X change, and none of them is the claims' row, a variable or a sub-claim's. -/
theorem RI0.core (h : RI0 w Bs name mem F A ps c n W os t cl V L Ao co) {X : Nat → Prop} (hg : Gr X W W')
    (hX : ∀ b, b < W.heap.size → X b → b = Bs ∨ (w.heap.size + 3 ≤ b ∧ ∃ o, W.heap[b]? = some o ∧ o.isCells = false)) (sb : SB W' Bs name mem F A ps c Ao' os' co' t') (fo : OT W' Ao' os') :
    RI0 w Bs name mem F A ps c n W' os' t' cl V L Ao' co' := by
  have hlt := h.lt
  have hz := h.size
  have nx : ∀ b, w.heap.size ≤ b → b < W.heap.size → (∃ o, W.heap[b]? = some o ∧ o.isCells = true) → ¬ X b := fun b hb hb2 ⟨o, ho, hc⟩ x => by
    rcases hX b hb2 x with e | ⟨_, o', ho', hc'⟩
    · omega
    · rw [ho] at ho'; cases ho'; rw [hc] at hc'; cases hc'
  have bc : ∀ {b t cs}, Blk W b t cs → w.heap.size ≤ b → ¬ X b := fun {b t cs} hb hle => nx b hle hb.lt ⟨_, hb, rfl⟩
  refine ⟨?_, Nat.le_trans hz hg.size, hg.blk h.b0 (bc h.b0 (Nat.le_refl _)), hg.blk h.b1 (bc h.b1 (by omega)), hg.blk h.b2 (bc h.b2 (by omega)), sb, hlt, h.fa, fo, ?_, ?_⟩
  · refine hg.grown h.grown fun k hk x => ?_
    rcases hX k (by omega) x with e | ⟨e, _⟩
    · exact e
    · omega
  · have hr : W.grownBy W' none → True := fun _ => trivial
    refine ⟨h.own.1, ?_⟩
    rcases h.own.2 with hn | ⟨g, cap, cur, e, hb, hgg, rest⟩
    · exact .inl hn
    · have := (Array.getElem?_eq_some_iff.1 hgg).1
      exact .inr ⟨g, cap, cur, e, hb, (hg.block g this (nx g (by omega) this ⟨_, hgg, rfl⟩)).trans hgg, rest⟩
  · refine h.cvs.keep fun b ⟨q1, q2, o, q3, q4⟩ => ?_
    have hb := (Array.getElem?_eq_some_iff.1 q3).1
    have e := hg.block b hb (nx b (by omega) hb ⟨o, q3, q4⟩)
    exact ⟨fun _ => World.cell?_of_block e, q1, q2, o, e.trans q3, q4⟩
theorem SB.gr (h : SB W Bs name mem F A ps c Ao os co t) {X : Nat → Prop} (hg : Gr X W W') (hs : ¬ X Bs) (ha : ∀ b o, A = some ⟨b, o, none⟩ → 0 < ps.length → ¬ X b) (ho : ∀ b o, Ao = some ⟨b, o, none⟩ → 0 < os.length → ¬ X b) : SB W' Bs name mem F A ps c Ao os co t := by
  refine ⟨hg.blk h.blk hs, fun hn => ?_, fun hn => ?_, h.ne, h.cap⟩
  · obtain ⟨b, o, e, hb, hc⟩ := h.pt hn
    exact ⟨b, o, e, Nat.lt_of_lt_of_le hb hg.size, fun i hi j v hv => hg.cell (hc i hi j v hv) (ha b o e hn)⟩
  · obtain ⟨b, o, e, hb, hc⟩ := h.of hn
    exact ⟨b, o, e, Nat.lt_of_lt_of_le hb hg.size, fun i hi => hg.cell (hc i hi) (ho b o e hn)⟩
theorem OT.gr {X : Nat → Prop} (hg : Gr X W W') (ho : ∀ b o, Ao = some ⟨b, o, none⟩ → 0 < os.length → ¬ X b) (h : OT W Ao os) : OT W' Ao os := fun b o e hn => by
  obtain ⟨cur, hc⟩ := h b o e hn
  exact ⟨cur, (hg.block b (Array.getElem?_eq_some_iff.1 hc).1 (ho b o e hn)).trans hc⟩
/-- new blocks, and blocks that are no cells. -/
theorem RI0.turn (h : RI0 w Bs name mem F A ps c n W os t cl V L Ao co) {X : Nat → Prop} (hg : Gr X W W') (hX : ∀ b, b < W.heap.size → X b → w.heap.size + 3 ≤ b ∧ ∃ o, W.heap[b]? = some o ∧ o.isCells = false) : RI0 w Bs name mem F A ps c n W' os t cl V L Ao co := by
  have hz := h.size
  have hlt := h.lt
  have ho : ∀ b o, Ao = some ⟨b, o, none⟩ → 0 < os.length → ¬ X b := fun b o e hn x => by
    obtain ⟨cur, hc⟩ := h.fo b o e hn
    obtain ⟨_, o', ho', hc'⟩ := hX b (Array.getElem?_eq_some_iff.1 hc).1 x
    rw [hc] at ho'; cases ho'; cases hc'
  exact h.core hg (fun b hb x => .inr (hX b hb x))
    (h.sb.gr hg (fun x => by have := (hX Bs (by omega) x).1; omega) (fun b o e hn x => by
      have h1 := (h.fa b o e hn).1
      have := (hX b (by omega) x).1
      omega) ho) (h.fo.gr hg ho)
theorem RI0.below (h : RI0 w Bs name mem F A ps c n W os t cl V L Ao co) (hb : Below W.heap.size W W') : RI0 w Bs name mem F A ps c n W' os t cl V L Ao co :=
  h.turn (X := fun _ => False) (.of_below hb) fun _ _ x => x.elim
/-- one claim more. -/
theorem RI0.push (h : RI0 w Bs name mem F A ps c n W os t cl V L Ao co) (hg : Gr (fun b => V.ownBlock = some b ∨ b = w.heap.size + 1) W W') (hV : V'.ownBlock = V.ownBlock ∨ ∃ g, V'.ownBlock = some g ∧ W.heap.size ≤ g) (x : CV) (y : Claim)
    (own : W'.ownsRow (w.heap.size + 3) 35 4 V' (cl.length + 1) (L.flatMap CV.cells ++ CV.cells x)) (b1 : Blk W' (w.heap.size + 1) 29 #[V'])
    (hx : x.f = y.frm ∧ x.t = y.to ∧ x.w = y.wth ∧ x.s.n = y.sub.length ∧ x.s.n ≤ x.s.c ∧ x.s.c ≤ maxLen ∧ RdCls W (RQ w W V) x.s.a y.sub) : RI0 w Bs name mem F A ps c n W' os t (cl ++ [y]) V' (L ++ [x]) Ao co := by
  have hz := h.size
  have hlt := h.lt
  have nlow : ∀ b, b < w.heap.size + 3 → b ≠ w.heap.size + 1 → ¬ (V.ownBlock = some b ∨ b = w.heap.size + 1) := fun b hb hne e => by
    rcases e with e | e
    · have := (h.ownNe e).1; omega
    · exact hne e
  have ho : ∀ b o, Ao = some ⟨b, o, none⟩ → 0 < os.length → ¬ (V.ownBlock = some b ∨ b = w.heap.size + 1) := fun b o e hn x => by
    obtain ⟨cur, hc⟩ := h.fo b o e hn
    rcases x with x | rfl
    · obtain ⟨_, _, cur', hc'⟩ := h.ownNe x
      rw [hc] at hc'; cases hc'
    · have := h.b1
      unfold Blk at this
      rw [hc] at this; cases this
  have keepQ : ∀ b, RQ w W V b → (∀ o, W'.cell? ⟨b, o, none⟩ = W.cell? ⟨b, o, none⟩) ∧ RQ w W' V' b := fun b ⟨q1, q2, o, q3, q4⟩ => by
    have hb := (Array.getElem?_eq_some_iff.1 q3).1
    have e := hg.block b hb (fun e => by
      rcases e with e | e
      · exact q2 e
      · omega)
    refine ⟨fun _ => World.cell?_of_block e, q1, fun e2 => ?_, o, e.trans q3, q4⟩
    rcases hV with hV | ⟨g, hV, hg2⟩
    · exact q2 (hV ▸ e2)
    · rw [hV] at e2; injection e2 with e2; omega
  refine ⟨?_, Nat.le_trans hz hg.size, hg.blk h.b0 (nlow _ (by omega) (by omega)), b1, hg.blk h.b2 (nlow _ (by omega) (by omega)), h.sb.gr hg (nlow _ (by omega) (by omega)) (fun b o e hn => ?_) ho, hlt, h.fa, h.fo.gr hg ho, ?_, ?_⟩
  · refine hg.grown h.grown fun k hk x => absurd x (nlow k (by omega) (by omega))
  · have := (h.fa b o e hn).1
    exact nlow b (by omega) (by omega)
  · simpa using own
  · obtain ⟨a1, a2, a3, a4, a5, a6, a7⟩ := hx
    exact (h.cvs.keep keepQ).push x y ⟨a1, a2, a3, a4, a5, a6, a7.keep keepQ⟩
theorem cv_set (L0 : List CV) (x : CV) (k : Int) : ((L0 ++ [x]).flatMap CV.cells).set (L0.length * 4 + 1) (.int .i64 k) = (L0 ++ [{ x with t := k }]).flatMap CV.cells := by
  simp only [List.flatMap_append, List.flatMap_cons, List.flatMap_nil, List.append_nil]
  rw [List.set_append_right _ _ (by rw [CV.len]; omega), CV.len, show L0.length * 4 + 1 - L0.length * 4 = 1 by omega]
  rfl
/-- the last claim goes on. -/
theorem RI0.last {cl0 : List Claim} {f t0 wi : Int} {sub : List Claim} {g cap : Nat} {L0 : List CV} {x : CV} (h : RI0 w Bs name mem F A ps c n W os t (cl0 ++ [.mk f t0 wi sub]) (.slice (some ⟨g, 0, none⟩) (cl0.length + 1) cap) (L0 ++ [x]) Ao co) (hl : L0.length = cl0.length) (k : Int) :
    RI0 w Bs name mem F A ps c n (W.setCell ⟨g, cl0.length * 4 + 1, none⟩ (.int .i64 k)) os t (cl0 ++ [.mk f k wi sub]) (.slice (some ⟨g, 0, none⟩) (cl0.length + 1) cap) (L0 ++ [{ x with t := k }]) Ao co := by
  have hz := h.size
  have hlt := h.lt
  obtain ⟨hg3, hgw, cur, hcur⟩ := h.ownNe (b := g) rfl
  have hg : Gr (fun b => b = g) W (W.setCell ⟨g, cl0.length * 4 + 1, none⟩ (.int .i64 k)) := Gr.setCell W _ _ rfl
  have ho : ∀ b o, Ao = some ⟨b, o, none⟩ → 0 < os.length → ¬ b = g := fun b o e hn x => by
    obtain ⟨cur', hc⟩ := h.fo b o e hn
    subst x
    rw [hc] at hcur; cases hcur
  have keepQ : ∀ b, RQ w W (.slice (some ⟨g, 0, none⟩) (cl0.length + 1) cap) b → (∀ o, (W.setCell ⟨g, cl0.length * 4 + 1, none⟩ (.int .i64 k)).cell? ⟨b, o, none⟩ = W.cell? ⟨b, o, none⟩) ∧ RQ w (W.setCell ⟨g, cl0.length * 4 + 1, none⟩ (.int .i64 k)) (.slice (some ⟨g, 0, none⟩) (cl0.length + 1) cap) b := fun b ⟨q1, q2, o, q3, q4⟩ => by
    have hb := (Array.getElem?_eq_some_iff.1 q3).1
    have e := hg.block b hb (fun e => q2 (by rw [e]; rfl))
    exact ⟨fun _ => World.cell?_of_block e, q1, q2, o, e.trans q3, q4⟩
  have hown := (h.own)
  simp only [List.length_append, List.length_cons, List.length_nil, Nat.zero_add] at hown
  have hst := (hown.stored (cl0.length * 4 + 1) (.int .i64 k)).1
  rw [← hl, cv_set, hl] at hst
  refine ⟨?_, Nat.le_trans hz hg.size, hg.blk h.b0 (by omega), hg.blk h.b1 (by omega), hg.blk h.b2 (by omega), h.sb.gr hg (by omega) (fun b o e hn => by have := (h.fa b o e hn).1; omega) ho, hlt, h.fa, h.fo.gr hg ho, by simpa using hst, ?_⟩
  · exact hg.grown h.grown fun j hj x => by omega
  · have hcv := h.cvs.keep keepQ
    refine ⟨by simp [hl], fun i hi hi' => ?_⟩
    have h0 := hcv.2 i (by simpa using hi) (by simpa using hi')
    by_cases e : i < cl0.length
    · simpa [List.getElem_append_left (show i < L0.length by omega), List.getElem_append_left e] using h0
    · have e2 : i = cl0.length := by simp at hi'; omega
      subst e2
      simp only [List.getElem_append_right (Nat.le_refl _), Nat.sub_self, List.getElem_append_right (show L0.length ≤ cl0.length by omega), hl, List.getElem_cons_zero, Claim.frm, Claim.to, Claim.wth, Claim.sub] at h0 ⊢
      obtain ⟨a1, a2, a3, a4, a5, a6, a7⟩ := h0
      exact ⟨a1, trivial, a3, a4, a5, a6, a7⟩
/-- k rounds are over. -/
def IR (w : World) (Bs : Nat) (name : ByteArray) (mem F : Int) (A : Option Addr) (ps : List Part) (c : Nat) (os : List Int) (t0 : Nat) (rec : List Int → Nat → Res) (d : Nat) (k : Nat) (W : World) : Prop :=
  ∃ cl t V L Ao co, prefR ps rec os t0 k = .claims cl t ∧ t + d ≤ 65536 ∧ RI0 w Bs name mem F A ps c os.length W os (t + d : Nat) cl V L Ao co
theorem IR.own {t0 : Nat} {rec : List Int → Nat → Res} {d B : Nat} (hB : w.heap.size + 3 ≤ B) : OwnFrom B (IR w Bs name mem F A ps c os t0 rec d) := fun _ _ _ row ⟨cl, t, V, L, Ao, co, h1, h2, h3⟩ hg hr =>
  ⟨cl, t, V, L, Ao, co, h1, h2, h3.turn (X := fun b => row = some b) (.of_grown hg fun _ e => e) fun b _ e => ⟨Nat.le_trans hB (hr b e).1, (hr b e).2⟩⟩
/-- one try more. -/
theorem RI0.tries (h : RI0 w Bs name mem F A ps c n W os t cl V L Ao co) (hb : Below W.heap.size (W.setCell ⟨Bs, 5, none⟩ (.int .i64 t')) W') : KeepsOthers W W' ∧ RI0 w Bs name mem F A ps c n W' os t' cl V L Ao co ∧ ∀ g ty cs, g ≠ Bs → Blk W g ty cs → Blk W' g ty cs := by
  have e : (W.setCell ⟨Bs, 5, none⟩ (.int .i64 t')).heap.size = W.heap.size := by simp [World.setCell]
  have hb' : Below (W.setCell ⟨Bs, 5, none⟩ (.int .i64 t')).heap.size (W.setCell ⟨Bs, 5, none⟩ (.int .i64 t')) W' := by rw [e]; exact hb
  have hg : Gr (fun b => b = Bs) W W' := (Gr.setCell (X := fun b => b = Bs) W ⟨Bs, 5, none⟩ _ rfl).trans (.of_below hb')
  have ho : ∀ b o, Ao = some ⟨b, o, none⟩ → 0 < os.length → ¬ b = Bs := fun b o e hn => h.sb.ne b o e hn
  exact ⟨(KeepsOthers.setCell W _ _).trans (keeps_below hb'), h.core hg (fun b _ x => .inl x) ((h.sb.try1 t').next hb') (h.fo.gr hg ho), fun g ty cs hne hk => hg.blk hk hne⟩
theorem RI0.tEq (h : RI0 w Bs name mem F A ps c n W os t cl V L Ao co) (hx : SBx W Bs name mem F A ps c os t') : t' = t := by
  obtain ⟨Ao', co', hx⟩ := hx
  have h1 := h.sb.blk.cell 5
  have h2 := hx.blk.cell 5
  rw [h1] at h2
  simp at h2
  exact h2.symm
/-- the claims' variable, stored anew. -/
theorem RI0.self (h : RI0 w Bs name mem F A ps c n W os t cl V L Ao co) (hg : Gr (fun b => b = w.heap.size + 1) W W') (b1 : Blk W' (w.heap.size + 1) 29 #[V]) : RI0 w Bs name mem F A ps c n W' os t cl V L Ao co := by
  have hz := h.size
  have hlt := h.lt
  have ho : ∀ b o, Ao = some ⟨b, o, none⟩ → 0 < os.length → ¬ b = w.heap.size + 1 := fun b o e hn x => by
    obtain ⟨cur, hc⟩ := h.fo b o e hn
    subst x
    have := h.b1
    unfold Blk at this
    rw [hc] at this; cases this
  refine ⟨hg.grown h.grown fun k hk x => by omega, Nat.le_trans hz hg.size, hg.blk h.b0 (by omega), b1, hg.blk h.b2 (by omega), h.sb.gr hg (by omega) (fun b o e hn => by have := (h.fa b o e hn).1; omega) ho, hlt, h.fa, h.fo.gr hg ho, ?_, ?_⟩
  · refine ⟨h.own.1, ?_⟩
    rcases h.own.2 with hn | ⟨g, cap, cur, e, hb, hgg, rest⟩
    · exact .inl hn
    · have := (Array.getElem?_eq_some_iff.1 hgg).1
      exact .inr ⟨g, cap, cur, e, hb, (hg.block g this (by omega)).trans hgg, rest⟩
  · refine h.cvs.keep fun b ⟨q1, q2, o, q3, q4⟩ => ?_
    have hb := (Array.getElem?_eq_some_iff.1 q3).1
    have e := hg.block b hb (by omega)
    exact ⟨fun _ => World.cell?_of_block e, q1, q2, o, e.trans q3, q4⟩
theorem Shut.gr {B : Nat} (h : Shut B W W') {lo : Nat} (hl : lo ≤ B) : Gr (fun b => lo ≤ b ∧ ∃ o, W.heap[b]? = some o ∧ o.isCells = false) W W' :=
  ⟨h.below.os, h.below.tape, h.below.output, h.size, fun k hk hx => by
    by_cases e : k < lo
    · exact h.below.block k (by omega)
    · have hs : W.heap[k]? = some W.heap[k] := Array.getElem?_eq_getElem hk
      cases hc : (W.heap[k]).isCells with
      | true => exact (h.cells k _ hs hc).trans hs.symm
      | false => exact absurd ⟨by omega, _, hs, hc⟩ hx⟩
/-- the claims at the end. -/
theorem RI0.post (h : RI0 w Bs name mem F A ps c n W os t cl V L Ao co) : ∃ A' c', V = .slice A' cl.length c' ∧ cl.length ≤ c' ∧ c' ≤ maxLen ∧ RdCls W (MadeQ w.heap.size W) A' cl := by
  refine rdCls_of_own (L := L) h.cvs.1.symm h.own (h.cvs.keep fun b ⟨q1, q2, q3⟩ => ⟨fun _ => rfl, by omega, q3⟩) fun g hg => ?_
  obtain ⟨a, b, cur, hc⟩ := h.ownNe hg
  exact ⟨by omega, _, hc, rfl⟩
end
theorem leaves_marksM {F : Fence} {n : Nat} {P : Program} {fn : Func} {tmps : Array Value} {R : Ending → World → Prop} {m : FrameMode} (hr : m ≠ .run) : ∀ (Ds : List Nat) (W : World) (B : Nat), Ds.Nodup → (∀ D ∈ Ds, B ≤ D ∧ W.heap[D]? = some (.deferred (some []))) →
    (∀ W', Shut B W W' → LeavesIn F n P fn tmps R [] m W') → LeavesInM F n P fn tmps R (Ds.map markD) m W
  | [], W, B, _, _, h => h W ⟨Below.refl _ _, fun _ _ hk _ => hk, Nat.le_refl _⟩
  | D :: Ds, W, B, hn, hm, h => by
    obtain ⟨hD, hn'⟩ := List.nodup_cons.1 hn
    obtain ⟨hB, hW⟩ := hm D (by simp)
    refine ⟨hr, .inl ⟨D, _, rfl, run_takeDeferred hW, ?_⟩⟩
    refine leaves_marksM hr Ds _ B hn' (fun E hE => ⟨(hm E (by simp [hE])).1, (World.putObj_heap_other (by rintro rfl; exact hD hE)).trans (hm E (by simp [hE])).2⟩) fun W' hS => h W' ?_
    refine ⟨?_, fun k o hk hc => hS.cells k o ((World.putObj_heap_other (fun e => ?_)).trans hk) hc, ?_⟩
    · exact ((Below.refl B W).grown (grownBy_putObj' W D (.deferred none)) (by have := (Array.getElem?_eq_some_iff.1 hW).1; omega) (fun k e => by cases e; omega)).trans hS.below
    · subst e; rw [hW] at hk; cases hk; cases hc
    · have := hS.size; simpa using this
end Go.Proofs.Ytlmbffnmjfbglab
/- A load may be taken first where the store that writes its cell waits for it: the condition on the world is asked till that store alone. -/
namespace Go.Proofs.Ytlmbffnmjfbglab
open Go.ChangeShapes Go.WideShapes Go.ChangeAt Go.RowKit

section
variable {P : Program} {ops : Array Oper} {Q : Exit → Act → World → Prop} {md : Region.Mode} {S : World → Prop} {s : Nat}
/-- whatever order is picked from here on, and S holds behind every operation till s has come up. -/
def wpAnyS (P : Program) (md : Region.Mode) (ops : Array Oper) (Q : Exit → Act → World → Prop) (S : World → Prop) (s : Nat) : Nat → Array Bool → Act → World → Prop
  | 0, listed, a, w => Region.ready md ops listed = [] ∧ Q .normal a w
  | fuel + 1, listed, a, w =>
    (Region.ready md ops listed = [] → Q .normal a w) ∧
    ∀ i ∈ Region.ready md ops listed, wpOp P ops Q i (fun a' w' => ((listed.setIfInBounds i true).getD s false = false → S w') ∧ wpAnyS P md ops Q S s fuel (listed.setIfInBounds i true) a' w') a w
theorem wpAny_of_S : ∀ (fuel : Nat) (listed : Array Bool) (a : Act) (w : World), wpAnyS P md ops Q S s fuel listed a w → wpAny P md ops Q fuel listed a w
  | 0, _, _, _, h => h
  | fuel + 1, _, _, _, h => ⟨h.1, fun i hi => wpOp_mono (fun a' w' h' => wpAny_of_S fuel _ a' w' h'.2) (h.2 i hi)⟩
theorem getD_set_far (listed : Array Bool) {i j : Nat} (h : i ≠ j) : (listed.setIfInBounds i true).getD j false = listed.getD j false := getD_set_ne false h
theorem wpAnyS_first {i : Nat} {oi : Oper} {v : Value} (hi : ops[i]? = some oi) (hsel : ∀ (j : Nat) (o : Oper) cs b, ops[j]? = some o → o.op ≠ .select cs b)
    (hQ : ∀ c a w, Q (.panic c) (a.put oi.dst v) w → Q (.panic c) a w) (C : List Nat) (hsC : s ∈ C) (hiC : i ∉ C) (hs : ∀ j ∈ C, ∀ oj, ops[j]? = some oj → ∃ e ∈ oj.after, Region.binds md e = true ∧ (e.on = i ∨ e.on ∈ C)) :
    ∀ (fuel : Nat) (listed : Array Bool) (a : Act) (w : World),
      (∀ j oj, ops[j]? = some oj → j ≠ i → listed.getD j true = false → (∀ e ∈ oj.after, Region.binds md e = true → e.on ≠ i) → oi.apart ops oj = true) →
      i ∈ Region.ready md ops listed → YieldsIf P ops S oi v a → S w → (∀ j ∈ C, listed.getD j false = false) →
      wpAnyS P md ops Q S s fuel (listed.setIfInBounds i true) (a.put oi.dst v) w → wpAnyS P md ops Q S s (fuel + 1) listed a w := by
  intro fuel
  induction fuel with
  | zero =>
    intro listed a w _ hr hy hS hls H
    refine ⟨fun h => (by rw [h] at hr; cases hr), fun j hj => ?_⟩
    by_cases hji : j = i
    · subst hji; exact hy.wpOp hi hS ⟨fun _ => hS, H⟩
    · have := ready_mono hj hji
      rw [H.1] at this
      cases this
  | succ fuel ih =>
    intro listed a w hfree hr hy hS hls H
    refine ⟨fun h => (by rw [h] at hr; cases hr), fun j hj => ?_⟩
    by_cases hji : j = i
    · subst hji; exact hy.wpOp hi hS ⟨fun _ => hS, H⟩
    · have h1 := H.2 j (ready_mono hj hji)
      obtain ⟨hjun, oj, hoj, hall⟩ := mem_ready.1 hj
      have hnot : ∀ e ∈ oj.after, Region.binds md e = true → e.on ≠ i := fun e he hb heq => by
        have h1 := hall e he hb
        have h0 := (mem_ready.1 hr).1
        rw [heq] at h1
        rcases Nat.lt_or_ge i listed.size with h' | h'
        · simp [h'] at h0 h1; rw [h0] at h1; cases h1
        · simp [Array.getElem?_eq_none h'] at h1
      have hjC : j ∉ C := fun hj => by
        obtain ⟨e, he, hb, hon⟩ := hs j hj oj hoj
        rcases hon with hon | hon
        · exact hnot e he hb hon
        · have h1 := hall e he hb
          have h0 := hls e.on hon
          rcases Nat.lt_or_ge e.on listed.size with h' | h'
          · simp [h'] at h0 h1; rw [h0] at h1; cases h1
          · simp [Array.getElem?_eq_none h'] at h1
      have hjs : j ≠ s := fun e => hjC (e ▸ hsC)
      have hsi : s ≠ i := fun e => hiC (e ▸ hsC)
      have h2 := wpOp_putIf hoj (hfree j oj hoj hji hjun hnot) (fun cs b => hsel i oi cs b hi) (fun cs b => hsel j oj cs b hoj) hQ hy h1
      have hfree' : ∀ k ok, ops[k]? = some ok → k ≠ i → (listed.setIfInBounds j true).getD k true = false →
          (∀ e ∈ ok.after, Region.binds md e = true → e.on ≠ i) → oi.apart ops ok = true := fun k ok hk hki hun hno => by
        refine hfree k ok hk hki ?_ hno
        by_cases hjk : j = k
        · subst hjk; exact hjun
        · rw [getD_set_ne true hjk] at hun; exact hun
      have hl' : ∀ x ∈ C, (listed.setIfInBounds j true).getD x false = false := fun x hx => by rw [getD_set_far _ (show j ≠ x from fun e => hjC (by rw [e]; exact hx))]; exact hls x hx
      have hl2 : ((listed.setIfInBounds i true).setIfInBounds j true).getD s false = false := by rw [getD_set_far _ hjs, getD_set_far _ (Ne.symm hsi)]; exact hls s hsC
      refine wpOp_mono (fun a' w' h3 => ⟨fun _ => h3.2.1 hl2, ih (listed.setIfInBounds j true) a' w' hfree' (ready_mono hr (Ne.symm hji)) h3.1 (h3.2.1 hl2) hl' ?_⟩) h2
      rw [Array.setIfInBounds_comm _ _ hji]
      exact h3.2.2
theorem wpAnyS_firstT {i : Nat} {oi : Oper} {v : Value} (hi : ops[i]? = some oi) (hsel : ∀ (j : Nat) (o : Oper) cs b, ops[j]? = some o → o.op ≠ .select cs b)
    (hQ : ∀ c a w, Q (.panic c) (a.put oi.dst v) w → Q (.panic c) a w) (hsi : s ≠ i) :
    ∀ (fuel : Nat) (listed : Array Bool) (a : Act) (w : World),
      (∀ j oj, ops[j]? = some oj → j ≠ i → listed.getD j true = false → (∀ e ∈ oj.after, Region.binds md e = true → e.on ≠ i) → oi.apart ops oj = true) →
      i ∈ Region.ready md ops listed → YieldsIf P ops (fun _ => True) oi v a → (listed.getD s false = false → S w) →
      wpAnyS P md ops Q S s fuel (listed.setIfInBounds i true) (a.put oi.dst v) w → wpAnyS P md ops Q S s (fuel + 1) listed a w := by
  intro fuel
  induction fuel with
  | zero =>
    intro listed a w _ hr hy hS H
    refine ⟨fun h => (by rw [h] at hr; cases hr), fun j hj => ?_⟩
    by_cases hji : j = i
    · subst hji; exact hy.wpOp hi trivial ⟨fun h => hS (by rw [getD_set_far _ (Ne.symm hsi)] at h; exact h), H⟩
    · have := ready_mono hj hji
      rw [H.1] at this
      cases this
  | succ fuel ih =>
    intro listed a w hfree hr hy hS H
    refine ⟨fun h => (by rw [h] at hr; cases hr), fun j hj => ?_⟩
    by_cases hji : j = i
    · subst hji; exact hy.wpOp hi trivial ⟨fun h => hS (by rw [getD_set_far _ (Ne.symm hsi)] at h; exact h), H⟩
    · have h1 := H.2 j (ready_mono hj hji)
      obtain ⟨hjun, oj, hoj, hall⟩ := mem_ready.1 hj
      have hnot : ∀ e ∈ oj.after, Region.binds md e = true → e.on ≠ i := fun e he hb heq => by
        have h1 := hall e he hb
        have h0 := (mem_ready.1 hr).1
        rw [heq] at h1
        rcases Nat.lt_or_ge i listed.size with h' | h'
        · simp [h'] at h0 h1; rw [h0] at h1; cases h1
        · simp [Array.getElem?_eq_none h'] at h1
      have h2 := wpOp_putIf hoj (hfree j oj hoj hji hjun hnot) (fun cs b => hsel i oi cs b hi) (fun cs b => hsel j oj cs b hoj) hQ hy h1
      have hfree' : ∀ k ok, ops[k]? = some ok → k ≠ i → (listed.setIfInBounds j true).getD k true = false →
          (∀ e ∈ ok.after, Region.binds md e = true → e.on ≠ i) → oi.apart ops ok = true := fun k ok hk hki hun hno => by
        refine hfree k ok hk hki ?_ hno
        by_cases hjk : j = k
        · subst hjk; exact hjun
        · rw [getD_set_ne true hjk] at hun; exact hun
      have hcv : ∀ h : (listed.setIfInBounds j true).getD s false = false, ((listed.setIfInBounds i true).setIfInBounds j true).getD s false = false := fun h => by
        rw [Array.setIfInBounds_comm _ _ (Ne.symm hji), getD_set_far _ (Ne.symm hsi)]; exact h
      refine wpOp_mono (fun a' w' h3 => ⟨fun h => h3.2.1 (hcv h), ih (listed.setIfInBounds j true) a' w' hfree' (ready_mono hr (Ne.symm hji)) h3.1 (fun h => h3.2.1 (hcv h)) ?_⟩) h2
      rw [Array.setIfInBounds_comm _ _ hji]
      exact h3.2.2
theorem wpAnyS_takeT {i : Nat} {oi : Oper} {v : Value} {fuel : Nat} {listed : Array Bool} {a : Act} {w : World} (hi : ops[i]? = some oi)
    (hs : Region.noSelect ops = true) (hf : Region.free md ops listed i = true) (hr : (Region.ready md ops listed).contains i = true) (hw : (s != i) = true)
    (hQ : ∀ c a w, Q (.panic c) (a.put oi.dst v) w → Q (.panic c) a w) (hy : YieldsIf P ops (fun _ => True) oi v a) (hS : S w)
    (h : wpAnyS P md ops Q S s fuel (listed.setIfInBounds i true) (a.put oi.dst v) w) : wpAnyS P md ops Q S s (fuel + 1) listed a w :=
  wpAnyS_firstT hi (Region.noSelect_spec hs) hQ (by simpa using hw) fuel listed a w (Region.free_spec hi hf) (by simpa using hr) hy (fun _ => hS) h
/-- whatever waits for i, through others too. -/
def after_ (md : Region.Mode) (ops : Array Oper) (i : Nat) : List Nat :=
  (List.range ops.size).foldl (fun C j => match ops[j]? with
    | some o => if o.after.any (fun e => Region.binds md e && (e.on == i || C.contains e.on)) then j :: C else C
    | none => C) []
def waits (md : Region.Mode) (ops : Array Oper) (C : List Nat) (s i : Nat) (listed : Array Bool) : Bool :=
  C.contains s && !C.contains i && C.all (fun j => !listed.getD j false && match ops[j]? with
    | some o => o.after.any fun e => Region.binds md e && (e.on == i || C.contains e.on)
    | none => true)
theorem wpAnyS_take {i : Nat} {oi : Oper} {v : Value} {fuel : Nat} {listed : Array Bool} {a : Act} {w : World} (hi : ops[i]? = some oi)
    (hs : Region.noSelect ops = true) (hf : Region.free md ops listed i = true) (hr : (Region.ready md ops listed).contains i = true) (hw : waits md ops (after_ md ops i) s i listed = true)
    (hQ : ∀ c a w, Q (.panic c) (a.put oi.dst v) w → Q (.panic c) a w) (hy : YieldsIf P ops S oi v a) (hS : S w)
    (h : wpAnyS P md ops Q S s fuel (listed.setIfInBounds i true) (a.put oi.dst v) w) : wpAnyS P md ops Q S s (fuel + 1) listed a w := by
  generalize after_ md ops i = C at hw
  simp only [waits, Bool.and_eq_true, Bool.not_eq_true', List.all_eq_true, List.contains_iff_mem] at hw
  obtain ⟨⟨h1, h2⟩, h3⟩ := hw
  refine wpAnyS_first hi (Region.noSelect_spec hs) hQ C h1 (fun e => by rw [← List.contains_iff_mem, h2] at e; cases e) (fun j hj oj ho => ?_) fuel listed a w (Region.free_spec hi hf) (by simpa using hr) hy hS (fun j hj => (h3 j hj).1) h
  have h4 := (h3 j hj).2
  rw [ho] at h4
  simp only [Array.any_eq_true'] at h4
  obtain ⟨e, he, hb⟩ := h4
  simp only [Bool.and_eq_true, Bool.or_eq_true, beq_iff_eq, List.contains_iff_mem] at hb
  exact ⟨e, he, hb.1, hb.2⟩
def AllReadyS (P : Program) (md : Region.Mode) (ops : Array Oper) (Q : Exit → Act → World → Prop) (S : World → Prop) (s : Nat) (fuel : Nat) (listed : Array Bool) (a : Act) (w : World) (rs : List Nat) : Prop :=
  ∀ i ∈ rs, wpOp P ops Q i (fun a' w' => ((listed.setIfInBounds i true).getD s false = false → S w') ∧ wpAnyS P md ops Q S s fuel (listed.setIfInBounds i true) a' w') a w
theorem AllReadyS.nil {fuel : Nat} {listed : Array Bool} {a : Act} {w : World} : AllReadyS P md ops Q S s fuel listed a w [] := fun _ h => by cases h
theorem AllReadyS.cons {fuel : Nat} {listed : Array Bool} {a : Act} {w : World} {i : Nat} {o : Oper} {rs : List Nat} (ho : ops[i]? = some o)
    (h : ∀ K' : Act → World → Prop, Go.Shut (∀ a w, ((listed.setIfInBounds i true).getD s false = false → S w) → wpAnyS P md ops Q S s fuel (listed.setIfInBounds i true) a w → K' a w) → if Region.wanted o (yielded ops a.tmps) = true then Oper.wp P o a w K' Q else K' (a.put o.dst undef) w)
    (hs : AllReadyS P md ops Q S s fuel listed a w rs) : AllReadyS P md ops Q S s fuel listed a w (i :: rs) := fun j hj => by
  rcases List.mem_cons.1 hj with rfl | hj
  · exact wpOp_step ho (fun K' hK => h K' (fun a w hS hW => hK a w ⟨hS, hW⟩))
  · exact hs j hj
theorem wpAnyS_ready {rs : List Nat} {fuel : Nat} {listed : Array Bool} {a : Act} {w : World} (hr : Region.ready md ops listed = rs) (hne : rs ≠ [])
    (h : AllReadyS P md ops Q S s fuel listed a w rs) : wpAnyS P md ops Q S s (fuel + 1) listed a w := ⟨fun h0 => absurd (hr ▸ h0) hne, hr ▸ h⟩
theorem wpAnyS_done {listed : Array Bool} {a : Act} {w : World} (hr : Region.ready md ops listed = []) (h : Q .normal a w) : ∀ fuel, wpAnyS P md ops Q S s fuel listed a w
  | 0 => ⟨hr, h⟩
  | _ + 1 => ⟨fun _ => h, by rw [hr]; simp⟩
/-- a drawn region in a round. -/
theorem wpIn_region_roundS {l n : Nat} {id : Nat} {a : Act} {w : World} (S : World → Prop) (s : Nat) (hm : P.follows .mixedOrders = true) (hd : noDefer ops = true) (hQ : ¬ LetsOut Q)
    (hS : S w.drew) (h : S w.drew → wpAnyS P .any ops Q S s ops.size (Array.replicate ops.size false) a w.drew) : (Code.region id ops true).wpIn (Fence.wide.inRound l) n P Q a w :=
  wpIn_region_any hm (wpAnyIn_round (noDefer_spec hd) hQ _ _ _ _ (wpAny_of_S _ _ _ _ (h hS)))
end
end Go.Proofs.Ytlmbffnmjfbglab
/- A claim appended: the row behind the append, its four cells stored, and the claims' variable. -/
namespace Go.Proofs.Ytlmbffnmjfbglab
open Go.ChangeShapes Go.WideShapes Go.ChangeAt Go.RowKit

/-- a claim's four cells stored. -/
def st4 (W : World) (g o : Nat) (x : CV) : World := (((W.setCell ⟨g, o, none⟩ (.int .i64 x.f)).setCell ⟨g, o + 1, none⟩ (.int .i64 x.t)).setCell ⟨g, o + 2, none⟩ (.int .i64 x.w)).setCell ⟨g, o + 3, none⟩ (.slice x.s.a x.s.n x.s.c)
theorem st4_gr {X : Nat → Prop} (W : World) (g o : Nat) (x : CV) (h : X g) : Gr X W (st4 W g o x) :=
  (((Gr.setCell W _ _ h).trans (Gr.setCell _ _ _ h)).trans (Gr.setCell _ _ _ h)).trans (Gr.setCell _ _ _ h)
theorem st4_keeps (W : World) (g o : Nat) (x : CV) : KeepsOthers W (st4 W g o x) :=
  (((KeepsOthers.setCell W _ _).trans (KeepsOthers.setCell _ _ _)).trans (KeepsOthers.setCell _ _ _)).trans (KeepsOthers.setCell _ _ _)
theorem own4 {W : World} {base n g cap : Nat} {xs : List Value} {a b c d : Value} (hl : xs.length = n * 4) (h : W.ownsRow base 35 4 (.slice (some ⟨g, 0, none⟩) (n + 1) cap) (n + 1) (xs ++ [a, b, c, d])) (x : CV) :
    (st4 W g (n * 4) x).ownsRow base 35 4 (.slice (some ⟨g, 0, none⟩) (n + 1) cap) (n + 1) (xs ++ CV.cells x) := by
  have h1 := (h.stored (n * 4) (.int .i64 x.f)).1
  have h2 := (h1.stored (n * 4 + 1) (.int .i64 x.t)).1
  have h3 := (h2.stored (n * 4 + 2) (.int .i64 x.w)).1
  have h4 := (h3.stored (n * 4 + 3) (.slice x.s.a x.s.n x.s.c)).1
  have e : ((((xs ++ [a, b, c, d]).set (n * 4) (.int .i64 x.f)).set (n * 4 + 1) (.int .i64 x.t)).set (n * 4 + 2) (.int .i64 x.w)).set (n * 4 + 3) (.slice x.s.a x.s.n x.s.c) = xs ++ CV.cells x := by
    rw [List.set_append_right _ _ (by omega), List.set_append_right _ _ (by omega), List.set_append_right _ _ (by omega), List.set_append_right _ _ (by omega), hl]
    rw [show n * 4 - n * 4 = 0 by omega, show n * 4 + 1 - n * 4 = 1 by omega, show n * 4 + 2 - n * 4 = 2 by omega, show n * 4 + 3 - n * 4 = 3 by omega]
    rfl
  rw [e] at h4
  exact h4
section
variable {w : World} {Bs : Nat} {name : ByteArray} {mem F : Int} {A : Option Addr} {ps : List Part} {c n : Nat} {W w2 : World} {os : List Int} {t : Int} {cl : List Claim} {V : Value} {L : List CV} {Ao : Option Addr} {co g cap : Nat} {z0 z1 z2 z3 : Value}
/-- the claim stored, then the variable; and the variable first. -/
theorem RI0.app (h : RI0 w Bs name mem F A ps c n W os t cl V L Ao co) (hgrow : W.grownBy w2 V.ownBlock) (hown : w2.ownsRow (w.heap.size + 3) 35 4 (.slice (some ⟨g, 0, none⟩) (cl.length + 1) cap) (cl.length + 1) (L.flatMap CV.cells ++ [z0, z1, z2, z3]))
    (hg : V.ownBlock = some g ∨ g = W.heap.size) (x : CV) (y : Claim) (hx : x.f = y.frm ∧ x.t = y.to ∧ x.w = y.wth ∧ x.s.n = y.sub.length ∧ x.s.n ≤ x.s.c ∧ x.s.c ≤ maxLen ∧ RdCls W (RQ w W V) x.s.a y.sub) :
    RI0 w Bs name mem F A ps c n ((st4 w2 g (cl.length * 4) x).setCell ⟨w.heap.size + 1, 0, none⟩ (.slice (some ⟨g, 0, none⟩) (cl.length + 1) cap)) os t (cl ++ [y]) (.slice (some ⟨g, 0, none⟩) (cl.length + 1) cap) (L ++ [x]) Ao co ∧
    RI0 w Bs name mem F A ps c n (st4 (w2.setCell ⟨w.heap.size + 1, 0, none⟩ (.slice (some ⟨g, 0, none⟩) (cl.length + 1) cap)) g (cl.length * 4) x) os t (cl ++ [y]) (.slice (some ⟨g, 0, none⟩) (cl.length + 1) cap) (L ++ [x]) Ao co := by
  have hz := h.size
  have hgB : g ≠ w.heap.size + 1 := fun e => by
    rcases hg with hg | hg
    · have := (h.ownNe hg).1; omega
    · omega
  have hgX : W.heap.size ≤ g ∨ (V.ownBlock = some g ∨ g = w.heap.size + 1) := by rcases hg with hg | hg <;> simp [hg]
  have hV : (Value.slice (some ⟨g, 0, none⟩) (cl.length + 1) cap).ownBlock = V.ownBlock ∨ ∃ g', (Value.slice (some ⟨g, 0, none⟩) (cl.length + 1) cap).ownBlock = some g' ∧ W.heap.size ≤ g' := by
    rcases hg with hg | hg
    · exact .inl (by rw [hg]; rfl)
    · exact .inr ⟨g, rfl, by omega⟩
  have hb2 : Blk w2 (w.heap.size + 1) 29 #[V] := (hgrow.block (w.heap.size + 1) (by omega) (fun e => by have := (h.ownNe e.symm).1; omega)).trans h.b1
  have hl : (L.flatMap CV.cells).length = cl.length * 4 := by rw [CV.len, h.cvs.1]
  have g0 : Gr (fun b => V.ownBlock = some b ∨ b = w.heap.size + 1 ∨ W.heap.size ≤ b) W w2 := .of_grown hgrow fun k e => .inl e
  have hXg : (fun b => V.ownBlock = some b ∨ b = w.heap.size + 1 ∨ W.heap.size ≤ b) g := by rcases hg with hg | hg <;> simp [hg]
  have hm : ∀ {W' : World}, Gr (fun b => V.ownBlock = some b ∨ b = w.heap.size + 1 ∨ W.heap.size ≤ b) W W' → Gr (fun b => V.ownBlock = some b ∨ b = w.heap.size + 1) W W' := fun k => k.mono fun b hb x => by
    rcases x with x | x | x
    · exact .inl x
    · exact .inr x
    · omega
  have hbs : Blk (st4 w2 g (cl.length * 4) x) (w.heap.size + 1) 29 #[V] := (st4_gr (X := fun b => b = g) w2 g _ x rfl).blk hb2 (fun e => hgB e.symm)
  have hgs : ∀ (W' : World) (v : Value), W'.grownBy (W'.setCell ⟨w.heap.size + 1, 0, none⟩ v) (some (w.heap.size + 1)) := fun W' v => ⟨rfl, rfl, rfl, by simp [World.setCell], fun k _ hk => Below.heap_setCell W' _ v k (fun e => hk (by rw [e]))⟩
  have hne : (Value.slice (some ⟨g, 0, none⟩) (cl.length + 1) cap).ownBlock = none ∨ (Value.slice (some ⟨g, 0, none⟩) (cl.length + 1) cap).ownBlock ≠ some (w.heap.size + 1) := .inr (by simp [Value.ownBlock, hgB])
  have k1 := (own4 hl hown x).kept (hgs _ (.slice (some ⟨g, 0, none⟩) (cl.length + 1) cap)) hne
  have k2 := own4 hl (hown.kept (hgs _ (.slice (some ⟨g, 0, none⟩) (cl.length + 1) cap)) hne) x
  refine ⟨?_, ?_⟩
  · exact h.push (hm ((g0.trans (st4_gr w2 g _ x hXg)).trans (Gr.setCell _ _ _ (.inr (.inl rfl))))) hV x y k1 (hbs.set_ 0 _) hx
  · exact h.push (hm ((g0.trans (Gr.setCell _ _ _ (.inr (.inl rfl)))).trans (st4_gr _ g _ x hXg))) hV x y k2 ((st4_gr (X := fun b => b = g) _ g _ x rfl).blk (hb2.set_ 0 _) (fun e => hgB e.symm)) hx
end
end Go.Proofs.Ytlmbffnmjfbglab
/- The offsets that the search carries: one appended, and cut off again; what the inner search leaves. -/
namespace Go.Proofs.Ytlmbffnmjfbglab
open Go.ChangeShapes Go.WideShapes Go.ChangeAt Go.RowKit

/-- an append that makes a new row, at a step of a drawn region. -/
theorem step_append_new {P : Program} (w : World) {ops : Array Oper} {o : Oper} {a : Act} {K : Act → World → Prop} {Q : Exit → Act → World → Prop} {E : Prop} (hgd : o.guard = none) (s x : Operand) (t : TypeId)
    (hop : o.op = Op.call { callee := Callee.builtin Builtin.append, args := #[s, x], argTypes := #[t, t] })
    (e : TypeId) (i : TypeInfo) (z : Value) (size bytes : Nat) (h1 : P.underlying t = some (.slice e)) (h2 : P.info? e = some i) (h3 : i.zero = some z) (h4 : i.size = size) (h5 : i.bytes = bytes) (h6 : z.cells.size = size) (h7 : 0 < size)
    (ao : Option Addr) (n cap : Nat) (olds : List Value) (hs : a.eval s = .slice ao n cap) (hnone : ao = none → n = 0 ∧ cap = 0) (hlo : olds.length = n * size) (holds : ∀ b, ao = some b → ∀ j u, olds[j]? = some u → w.cell? (b.add j) = some u)
    (ad : Addr) (m c : Nat) (news : List Value) (hx : a.eval x = .slice (some ad) m c) (hn : news.length = m * size) (hc : ∀ j u, news[j]? = some u → w.cell? (ad.add j) = some u) (h1c : ∀ u ∈ news, u.oneCell' = true)
    (hfull : cap < n + m) (b1 : n + m ≤ maxLen) (b2 : (n + m) * bytes ≤ 140737488355328) (hm : 0 < m)
    (hK : ∀ g cap' w', w'.ownsRow w.heap.size e size (.slice (some ⟨g, 0, none⟩) (n + m) cap') (n + m) (olds ++ news) → w.grownBy w' none → K (a.put o.dst (.slice (some ⟨g, 0, none⟩) (n + m) cap')) w') :
    if Region.wanted o (yielded ops a.tmps) = true then Oper.wp P o a w K Q else E := by
  have hw : Region.wanted o (yielded ops a.tmps) = true := by simp [Region.wanted, hgd]
  rw [if_pos hw]
  cases ao with
  | some b =>
    obtain ⟨v', w', hrun, r1, r2⟩ := run_append_arg_grows (P := P) w t o.type e i z size bytes h1 h2 h3 h4 h5 h6 h7 b n cap olds hlo (holds b rfl) ad m c news hn hc hfull b1 b2
    obtain ⟨g, cap', rfl, _, _⟩ := r1.form (by omega)
    unfold Oper.wp
    simp [execOp, hop, resolve, invoke, builtin, hs, hx, hrun, Result.andThen]
    exact hK _ _ w' r1 r2
  | none =>
    obtain ⟨rfl, rfl⟩ := hnone rfl
    obtain rfl : olds = [] := List.eq_nil_of_length_eq_zero (by simpa using hlo)
    obtain ⟨v', w', hrun, r1, r2, _⟩ := run_append_own (P := P) w w.heap.size t o.type e i z size bytes h1 h2 h3 h4 h5 h6 h7 (.slice none 0 0) 0 [] (World.ownsRow_nil w _ e size) ad m c news hn hc h1c b1 b2 (Nat.le_refl _)
    obtain ⟨g, cap', rfl, _, _⟩ := r1.form (by omega)
    unfold Oper.wp
    simp [execOp, hop, resolve, invoke, builtin, hs, hx, hrun, Result.andThen]
    have hk := hK _ _ w' r1 r2
    rw [Nat.zero_add] at hk
    exact hk
section
variable {w : World} {Bs : Nat} {name : ByteArray} {mem F : Int} {A : Option Addr} {ps : List Part} {c n : Nat} {W W' w2 : World} {os os' : List Int} {t t' : Int} {cl : List Claim} {V : Value} {L : List CV} {Ao Ao' : Option Addr} {co co' g cap : Nat}
/-- an offset appended to the search's. -/
theorem RI0.off (h : RI0 w Bs name mem F A ps c n W os t cl V L Ao co) (k : Int) (hgr : W.grownBy w2 none) (hown : w2.ownsRow W.heap.size 3 1 (.slice (some ⟨g, 0, none⟩) (os.length + 1) cap) (os.length + 1) (os.map (Value.int .i64) ++ [.int .i64 k])) :
    RI0 w Bs name mem F A ps c n (w2.setCell ⟨Bs, 4, none⟩ (.slice (some ⟨g, 0, none⟩) (os.length + 1) cap)) (os ++ [k]) t cl V L (some ⟨g, 0, none⟩) cap ∧ KeepsOthers W (w2.setCell ⟨Bs, 4, none⟩ (.slice (some ⟨g, 0, none⟩) (os.length + 1) cap)) ∧
    ∀ g' ty cs, g' ≠ Bs → Blk W g' ty cs → Blk (w2.setCell ⟨Bs, 4, none⟩ (.slice (some ⟨g, 0, none⟩) (os.length + 1) cap)) g' ty cs := by
  have hz := h.size
  have hlt := h.lt
  have hg : Gr (fun b => b = Bs) W (w2.setCell ⟨Bs, 4, none⟩ (.slice (some ⟨g, 0, none⟩) (os.length + 1) cap)) := (Gr.of_grown hgr fun k e => by cases e).trans (Gr.setCell _ _ _ rfl)
  obtain ⟨g', cap', cur, e, hgB, hgg, hcap⟩ : ∃ g' cap' cur, Value.slice (some ⟨g, 0, none⟩) (os.length + 1) cap = .slice (some ⟨g', 0, none⟩) (os.length + 1) cap' ∧ W.heap.size ≤ g' ∧ w2.heap[g']? = some (.cells cur 3 (0, 0)) ∧ os.length + 1 ≤ cap' := by
    rcases hown.2 with ⟨e, _⟩ | ⟨g', cap', cur, e, hb, hh, hc, _⟩
    · cases e
    · exact ⟨g', cap', cur, e, hb, hh, hc⟩
  injection e with e _ ec
  injection e with e
  injection e with e
  subst e ec
  have hgne : g ≠ Bs := by omega
  have hg2 : (w2.setCell ⟨Bs, 4, none⟩ (.slice (some ⟨g, 0, none⟩) (os.length + 1) cap)).heap[g]? = w2.heap[g]? := Below.heap_setCell _ _ _ _ hgne
  have hfo : OT (w2.setCell ⟨Bs, 4, none⟩ (.slice (some ⟨g, 0, none⟩) (os.length + 1) cap)) (some ⟨g, 0, none⟩) (os ++ [k]) := fun b o e _ => by
    cases e
    exact ⟨cur, hg2.trans hgg⟩
  have hsb : SB (w2.setCell ⟨Bs, 4, none⟩ (.slice (some ⟨g, 0, none⟩) (os.length + 1) cap)) Bs name mem F A ps c (some ⟨g, 0, none⟩) (os ++ [k]) cap t := by
    refine ⟨?_, fun hn => ?_, fun _ => ⟨g, 0, rfl, ?_, fun i hi => ?_⟩, fun b o e _ => by cases e; exact hgne, by simpa using hcap⟩
    · have hb := (h.sb.blk.grown hgr (by simp)).set_ 4 (.slice (some ⟨g, 0, none⟩) (os.length + 1) cap)
      rw [show (os ++ [k]).length = os.length + 1 by simp]
      exact hb
    · obtain ⟨b, o, e, hb, hc⟩ := h.sb.pt hn
      exact ⟨b, o, e, Nat.lt_of_lt_of_le hb hg.size, fun i hi j v hv => hg.cell (hc i hi j v hv) (h.fa b o e hn).2⟩
    · have := (Array.getElem?_eq_some_iff.1 hgg).1
      simpa [World.setCell] using this
    · have := hown.cells (g := g) rfl i (.int .i64 (os ++ [k])[i]) (by
        rw [show os.map (Value.int .i64) ++ [.int .i64 k] = (os ++ [k]).map (Value.int .i64) by simp, List.getElem?_map, List.getElem?_eq_getElem hi]
        rfl)
      rw [add_none] at this
      rw [Nat.zero_add]
      rw [World.cell?_setCell_far _ _ _ _ (fun e => hgne e.symm)]
      simpa using this
  exact ⟨h.core hg (fun b _ x => .inl x) hsb hfo, (KeepsOthers.of_grownBy hgr fun j o e => by cases e).trans (KeepsOthers.setCell _ _ _), fun g' ty cs hne hb => hg.blk hb hne⟩
/-- the last offset cut off. -/
theorem RI0.cut {k : Int} (h : RI0 w Bs name mem F A ps c n W (os ++ [k]) t cl V L Ao co) (v : Value) (hv : v = .slice Ao os.length co) :
    RI0 w Bs name mem F A ps c n (W.setCell ⟨Bs, 4, none⟩ v) os t cl V L Ao co ∧ ∀ g' ty cs, g' ≠ Bs → Blk W g' ty cs → Blk (W.setCell ⟨Bs, 4, none⟩ v) g' ty cs := by
  subst hv
  have hg : Gr (fun b => b = Bs) W (W.setCell ⟨Bs, 4, none⟩ (.slice Ao os.length co)) := Gr.setCell _ _ _ rfl
  have hn1 : 0 < (os ++ [k]).length := by simp
  refine ⟨h.core hg (fun b _ x => .inl x) ⟨h.sb.blk.set_ 4 _, fun hn => ?_, fun hn => ?_, fun b o e _ => h.sb.ne b o e hn1, by have := h.sb.cap; simp at this; omega⟩ (fun b o e _ => ?_), fun g' ty cs hne hb => hg.blk hb hne⟩
  · obtain ⟨b, o, e, hb, hc⟩ := h.sb.pt hn
    exact ⟨b, o, e, Nat.lt_of_lt_of_le hb hg.size, fun i hi j v hv => hg.cell (hc i hi j v hv) (h.fa b o e hn).2⟩
  · obtain ⟨b, o, e, hb, hc⟩ := h.sb.of hn1
    refine ⟨b, o, e, Nat.lt_of_lt_of_le hb hg.size, fun i hi => hg.cell ?_ (h.sb.ne b o e hn1)⟩
    have := hc i (by simp; omega)
    rwa [List.getElem_append_left hi] at this
  · obtain ⟨cur, hc⟩ := h.fo b o e hn1
    exact ⟨cur, (hg.block b (Array.getElem?_eq_some_iff.1 hc).1 (h.sb.ne b o e hn1)).trans hc⟩
/-- the search of the next partition is over. -/
theorem RI0.called (h : RI0 w Bs name mem F A ps c n W os t cl V L Ao co) (hgr : W.grownBy W' (some Bs)) (hs : SB W' Bs name mem F A ps c Ao' os co' t') (ho : OT W' Ao' os) {A' : Option Addr} {l : List Claim} (hl : RdCls W' (MadeQ W.heap.size W') A' l) :
    RI0 w Bs name mem F A ps c n W' os t' cl V L Ao' co' ∧ RdCls W' (RQ w W' V) A' l ∧ KeepsOthers W W' ∧ ∀ g' ty cs, g' ≠ Bs → Blk W g' ty cs → Blk W' g' ty cs := by
  have hz := h.size
  have hg : Gr (fun b => b = Bs) W W' := Gr.of_grown hgr fun k e => by injection e with e; exact e.symm
  refine ⟨h.core hg (fun b _ x => .inl x) hs ho, hl.keep fun b ⟨q1, q2⟩ => ⟨fun _ => rfl, by omega, fun e => ?_, q2⟩, KeepsOthers.of_grownBy hgr fun j o e hj => ?_, fun g' ty cs hne hb => hg.blk hb hne⟩
  · injection e with e
    subst e
    have := h.sb.blk
    unfold Blk at this
    rw [this] at hj
    cases hj
    rfl
  · have := (h.ownNe e).2.1
    omega
theorem RI0.keeps (h : RI0 w Bs name mem F A ps c n W os t cl V L Ao co) (hgr : W.grownBy W' (some Bs)) : KeepsOthers W W' := by
  refine KeepsOthers.of_grownBy hgr fun j o e hj => ?_
  injection e with e
  subst e
  have := h.sb.blk
  unfold Blk at this
  rw [this] at hj
  cases hj
  rfl
theorem RI0.stopped (h : RI0 w Bs name mem F A ps c n W os t cl V L Ao co) (hgr : W.grownBy W' (some Bs)) : w.grownBy W' (some Bs) :=
  (Gr.of_grown (X := fun b => b = Bs) hgr fun k e => by injection e with e; exact e.symm).grown h.grown fun k _ x => x
/-- of the claims' arrays below, behind an append's argument. -/
theorem RdCls.below {A' : Option Addr} {l : List Claim} (hb : Below W.heap.size W W') (h : RdCls W (RQ w W V) A' l) : RdCls W' (RQ w W' V) A' l :=
  h.keep fun b ⟨q1, q2, o, q3, q4⟩ => by
    have e := hb.block b (Array.getElem?_eq_some_iff.1 q3).1
    exact ⟨fun _ => World.cell?_of_block e, q1, q2, o, e.trans q3, q4⟩
end
end Go.Proofs.Ytlmbffnmjfbglab
/- A region of the search's rounds: a claim appended. -/
namespace Go.Proofs.Ytlmbffnmjfbglab
open Go.ChangeShapes Go.WideShapes Go.ChangeAt Go.RowKit

def regAt (id : Nat) : Code → Option Code
  | .region i ops d => if i = id then some (.region i ops d) else none
  | .seq a b => match regAt id a with | some c => some c | none => regAt id b
  | .cond _ a b => match regAt id a with | some c => some c | none => regAt id b
  | .block _ b => regAt id b
  | .loop b => regAt id b
  | .scope b => regAt id b
  | .rangeFunc _ _ a b => match regAt id a with | some c => some c | none => regAt id b
  | _ => none
/-- a region of the search. -/
noncomputable def reg37 (id : Nat) : Code := (Try.f37.body.bind (regAt id)).getD .skip
theorem info35 : (Try.prog.info? 35).map (fun i => (i.zero, i.size, i.bytes)) = some (some (.agg #[.int .i64 0, .int .i64 0, .int .i64 0, .slice none 0 0]), 4, 48) := by kernel_rfl

section
attribute [local go_sem] Oper.semAt_some
variable {w : World} {Bs : Nat} {name : ByteArray} {mem F : Int} {A : Option Addr} {ps : List Part} {c n : Nat} {os : List Int} {t : Int} {cl : List Claim} {L : List CV} {Ao : Option Addr} {co : Nat}
set_option maxRecDepth 100000 in
set_option maxHeartbeats 4000000 in
theorem reg8_c {l m : Nat} (W : World) (VA : Option Addr) (Vc Bn k : Nat) (j : Int) (h3 : RI0 w Bs name mem F A ps c n W os t cl (.slice VA cl.length Vc) L Ao co) (hb : Blk W Bn 65 #[.pointer (some ⟨Bs, 0, none⟩)]) (hcl : cl.length ≤ 2000)
    {x0 x1 x3 x6 x7 x8 x9 x10 x11 x12 x13 x14 x15 x16 x17 x18 x19 x20 x21 x22 x23 x24 x25 x26 x27 x28 x29 x30 x31 x32 x33 x34 x35 x36 x37 x38 x39 x40 x41 x42 x43 x44 x45 x46 x47 x48 x49 x50 x51 x52 x53 x54 x55 x56 x57 x58 x59 x60 x61 x62 x63 x64 x65 x66 x67 x68 x69 x70 x71 x72 x73 x74 x75 x76 x77 x78 x79 x80 x81 x82 x83 x84 x85 x86 x87 x88 x89 x90 x91 x92 x93 x94 x95 : Value} (Q : Exit → Act → World → Prop) (hQ : ¬ LetsOut Q) (hP0 : ∀ d v c a w, Q (.panic c) (Act.put a d v) w → Q (.panic c) a w)
    (hN : ∀ a' W' V' L', KeepsOthers W W' → Blk W' Bn 65 #[.pointer (some ⟨Bs, 0, none⟩)] → RI0 w Bs name mem F A ps c n W' os t (cl ++ [.mk k k j []]) V' L' Ao co → Q .normal a' W') :
    (reg37 8).wpIn (Fence.wide.inRound l) m Try.prog Q { tmps := List.toArray (x0 :: x1 :: Value.pointer (some ⟨w.heap.size + 1, 0, none⟩) :: x3 :: Value.int .i64 k :: Value.int .i64 j :: x6 :: x7 :: x8 :: x9 :: x10 :: x11 :: x12 :: x13 :: x14 :: x15 :: x16 :: x17 :: x18 :: x19 :: x20 :: x21 :: x22 :: x23 :: x24 :: x25 :: x26 :: x27 :: x28 :: x29 :: x30 :: x31 :: x32 :: x33 :: x34 :: x35 :: x36 :: x37 :: x38 :: x39 :: x40 :: x41 :: x42 :: x43 :: x44 :: x45 :: x46 :: x47 :: x48 :: x49 :: x50 :: x51 :: x52 :: x53 :: x54 :: x55 :: x56 :: x57 :: x58 :: x59 :: x60 :: x61 :: x62 :: x63 :: x64 :: x65 :: x66 :: x67 :: x68 :: x69 :: x70 :: x71 :: x72 :: x73 :: x74 :: x75 :: x76 :: x77 :: x78 :: x79 :: x80 :: x81 :: x82 :: x83 :: x84 :: x85 :: x86 :: x87 :: x88 :: x89 :: x90 :: x91 :: x92 :: x93 :: x94 :: x95 :: []), defers := [] } W := by
  have q1 : W.cell? ⟨w.heap.size + 1, 0, none⟩ = some (.slice VA cl.length Vc) := h3.b1.cell 0
  obtain ⟨i0, hi0, hz0, hz1, hz2⟩ := info_parts info35
  refine wpIn_region_roundS (fun W' => W'.cell? ⟨w.heap.size + 1, 0, none⟩ = some (.slice VA cl.length Vc)) 10 (by kernel_rfl) (by kernel_rfl) hQ (by go_keep) (fun hHeld => ?_)
  have h4 := h3.below (W' := W.drew) (Below.refl _ W).drew
  have hko4 : KeepsOthers W W.drew := keeps_below (Below.refl _ W).drew
  have hbn4 : Blk W.drew Bn 65 #[.pointer (some ⟨Bs, 0, none⟩)] := hb.below (Below.refl _ W).drew hb.lt
  have hP := fun c a w d v => hP0 d v c a w
  have HP := Lib.hid hP0
  have HN := Lib.hid hN
  clear h3 hb q1 hN
  revert hko4 hbn4
  generalize W.drew = W4 at *
  intro hko4 hbn4
  refine wpAnyS_take (i := 0) (v := ?_) rfl (by kernel_rfl) (by kernel_rfl) (by kernel_rfl) (by kernel_rfl) (fun c a w => HP.out _ _ c a w) (Or.inl ⟨by rfl, ?_⟩) hHeld ?_
  rotate_left
  · intro w hSw
    (try dsimp only at hSw)
    go_simp
    first | done | with_reducible rfl
  simp only [Act.put, List.setIfInBounds_toArray, List.set_cons_zero, List.set_cons_succ]
  refine wpAnyS_take (i := 1) (v := ?_) rfl (by kernel_rfl) (by kernel_rfl) (by kernel_rfl) (by kernel_rfl) (fun c a w => HP.out _ _ c a w) (Or.inl ⟨by rfl, ?_⟩) hHeld ?_
  rotate_left
  · intro w hSw
    (try dsimp only at hSw)
    go_simp
    first | done | with_reducible rfl
  simp only [Act.put, List.setIfInBounds_toArray, List.set_cons_zero, List.set_cons_succ]
  refine wpAnyS_take (i := 2) (v := ?_) rfl (by kernel_rfl) (by kernel_rfl) (by kernel_rfl) (by kernel_rfl) (fun c a w => HP.out _ _ c a w) (Or.inl ⟨by rfl, ?_⟩) hHeld ?_
  rotate_left
  · intro w hSw
    (try dsimp only at hSw)
    go_simp
    first | done | with_reducible rfl
  simp only [Act.put, List.setIfInBounds_toArray, List.set_cons_zero, List.set_cons_succ]
  refine wpAnyS_take (i := 3) (v := ?_) rfl (by kernel_rfl) (by kernel_rfl) (by kernel_rfl) (by kernel_rfl) (fun c a w => HP.out _ _ c a w) (Or.inl ⟨by rfl, ?_⟩) hHeld ?_
  rotate_left
  · intro w hSw
    (try dsimp only at hSw)
    go_simp
    first | done | with_reducible rfl
  simp only [Act.put, List.setIfInBounds_toArray, List.set_cons_zero, List.set_cons_succ]
  refine wpAnyS_take (i := 4) (v := ?_) rfl (by kernel_rfl) (by kernel_rfl) (by kernel_rfl) (by kernel_rfl) (fun c a w => HP.out _ _ c a w) (Or.inl ⟨by rfl, ?_⟩) hHeld ?_
  rotate_left
  · intro w hSw
    (try dsimp only at hSw)
    go_simp
    first | done | with_reducible rfl
  simp only [Act.put, List.setIfInBounds_toArray, List.set_cons_zero, List.set_cons_succ]
  refine wpAnyS_take (i := 5) (v := ?_) rfl (by kernel_rfl) (by kernel_rfl) (by kernel_rfl) (by kernel_rfl) (fun c a w => HP.out _ _ c a w) (Or.inl ⟨by rfl, ?_⟩) hHeld ?_
  rotate_left
  · intro w hSw
    (try dsimp only at hSw)
    go_simp
    first | done | with_reducible rfl
  simp only [Act.put, List.setIfInBounds_toArray, List.set_cons_zero, List.set_cons_succ]
  refine wpAnyS_ready (rs := [6]) (by kernel_rfl) (by simp) ?_
  refine AllReadyS.cons rfl (fun K hK => ?_) AllReadyS.nil
  go_simp
  have hS5 : (W4.alloc (.cells #[.int .i64 0, .int .i64 0, .int .i64 0, .slice none 0 0] 35)).cell? ⟨w.heap.size + 1, 0, none⟩ = some (.slice VA cl.length Vc) := by go_keep
  refine hK.out _ _ (fun _ => hS5) ?_
  clear hK hHeld
  refine wpAnyS_ready (rs := [7]) (by kernel_rfl) (by simp) ?_
  refine AllReadyS.cons rfl (fun K hK => ?_) AllReadyS.nil
  have h5 := h4.below (W' := W4.alloc (.cells #[.int .i64 0, .int .i64 0, .int .i64 0, .slice none 0 0] 35)) ((Below.refl _ W4).alloc (Nat.le_refl _) _)
  have hz5 := h5.size
  refine step_append_lies _ (by rfl) (.tmp 34) (.tmp 40) 29 (by rfl) (w.heap.size + 3) 35 i0 _ 4 48 Try.underlying29 hi0 hz0 hz1 hz2 (by rfl) (by decide) (.slice VA cl.length Vc) cl.length _ (by rfl) h5.own ⟨W4.heap.size, 0, none⟩ 1 1 [.int .i64 0, .int .i64 0, .int .i64 0, .slice none 0 0] (by rfl) (by rfl) (World.news_of_block (cs := #[.int .i64 0, .int .i64 0, .int .i64 0, .slice none 0 0]) (t := 35) (fr := (0, 0)) (heap_alloc_new W4 _)) (by simp [Value.oneCell']) (by omega) (by unfold maxLen; omega) (by omega) (by omega) (W4.heap.size + 1) (by simp) ?_
  intro g cap w2 hown2 hgrow hg hgl
  have hgB : g ≠ w.heap.size + 1 := fun e => by
    rcases hg with hg | hg
    · have := (h5.ownNe hg).1; omega
    · simp at hz5; omega
  have hS7 : w2.cell? ⟨w.heap.size + 1, 0, none⟩ = some (.slice VA cl.length Vc) := (World.cell?_of_block (hgrow.block (w.heap.size + 1) (by omega) (fun e => by have := (h5.ownNe e.symm).1; omega))).trans hS5
  have hb7 : Blk w2 (w.heap.size + 1) 29 #[.slice VA cl.length Vc] := (hgrow.block (w.heap.size + 1) (by omega) (fun e => by have := (h5.ownNe e.symm).1; omega)).trans h5.b1
  have fB := hb7.frozen 0
  refine hK.out _ _ (fun _ => hS7) ?_
  clear hK
  have hi0 : (0 : Int) ≤ (cl.length : Int) := by omega
  have hi1 : (cl.length : Int) < (cl.length : Int) + 1 := by omega
  have hLl : (L.flatMap CV.cells).length = cl.length * 4 := by rw [CV.len, h5.cvs.1]
  have hc2 : ∀ j v, ([.int .i64 0, .int .i64 0, .int .i64 0, .slice none 0 0] : List Value)[j]? = some v → w2.cell? ⟨g, cl.length * 4 + j, none⟩ = some v := fun j v hv => by
    have := hown2.cells (g := g) rfl (cl.length * 4 + j) v (by rw [List.getElem?_append_right (by omega), hLl, show cl.length * 4 + j - cl.length * 4 = j by omega]; exact hv)
    rw [add_none] at this
    simpa using this
  have z0 := hc2 0 _ rfl
  have z1 := hc2 1 _ rfl
  have z2 := hc2 2 _ rfl
  have z3 := hc2 3 _ rfl
  have f0 := hown2.frozenAt (cl.length * 4 + 0)
  have f1 := hown2.frozenAt (cl.length * 4 + 1)
  have f2 := hown2.frozenAt (cl.length * 4 + 2)
  have f3 := hown2.frozenAt (cl.length * 4 + 3)
  simp only [Nat.add_zero] at z0 f0
  have nB : (Value.slice VA cl.length Vc).ownBlock ≠ some Bn := fun e => by
    obtain ⟨_, _, cur, hc⟩ := h5.ownNe e
    have h6 := hbn4.alloc (.cells #[.int .i64 0, .int .i64 0, .int .i64 0, .slice none 0 0] 35)
    unfold Blk at h6
    rw [hc] at h6; cases h6
  have hgn : Bn ≠ g := by
    rintro rfl
    rcases hg with hg | hg
    · exact nB hg
    · have := hbn4.lt; omega
  have hbn7 : Blk w2 Bn 65 #[.pointer (some ⟨Bs, 0, none⟩)] := (hgrow.block Bn (by have := hbn4.lt; simp; omega) (fun e => nB e.symm)).trans (hbn4.alloc _)
  have hko7 : KeepsOthers W w2 := (hko4.trans (KeepsOthers.alloc _ _)).trans (KeepsOthers.of_grownBy hgrow fun j o hj ho => own_cells h5.own j o hj ho)
  have hbv : Bn ≠ w.heap.size + 1 := by
    rintro rfl
    have h6 := h4.b1
    unfold Blk at h6 hbn4
    rw [h6] at hbn4; cases hbn4
  have HA := Lib.hid (h5.app hgrow hown2 (by simpa using hg) ⟨k, k, j, ⟨none, 0, 0⟩⟩ (.mk k k j []) ⟨rfl, rfl, rfl, rfl, Nat.le_refl _, Nat.zero_le _, fun hn => by simp [Claim.sub] at hn⟩)
  clear hown2 hgrow h5 h4 hc2 nB hbn4 hg
  simp only [Act.put, List.setIfInBounds_toArray, List.set_cons_zero, List.set_cons_succ]
  refine wpAnyS_takeT (i := 8) (v := ?_) rfl (by kernel_rfl) (by kernel_rfl) (by kernel_rfl) (by kernel_rfl) (fun c a w => HP.out _ _ c a w) (Or.inl ⟨by rfl, ?_⟩) hS7 ?_
  rotate_left
  · intro w hSw
    (try dsimp only at hSw)
    go_simp
    first | done | with_reducible rfl
  simp only [Act.put, List.setIfInBounds_toArray, List.set_cons_zero, List.set_cons_succ]
  refine wpAnyS_ready (rs := [9, 10]) (by kernel_rfl) (by simp) ?_
  refine AllReadyS.cons rfl (fun K hK => ?_) (AllReadyS.cons rfl (fun K hK => ?_) AllReadyS.nil)
  · go_simp
    have hS8 : ((((w2.setCell ⟨g, cl.length * 4, none⟩ (.int .i64 k)).setCell ⟨g, cl.length * 4 + 1, none⟩ (.int .i64 k)).setCell ⟨g, cl.length * 4 + 2, none⟩ (.int .i64 j)).setCell ⟨g, cl.length * 4 + 3, none⟩ (.slice none 0 0)).cell? ⟨w.heap.size + 1, 0, none⟩ = some (.slice VA cl.length Vc) := by
      rw [World.cell?_setCell_far _ _ _ _ hgB, World.cell?_setCell_far _ _ _ _ hgB, World.cell?_setCell_far _ _ _ _ hgB, World.cell?_setCell_far _ _ _ _ hgB]
      exact hS7
    refine hK.out _ _ (fun _ => hS8) ?_
    clear hK
    refine wpAnyS_ready (rs := [10]) (by kernel_rfl) (by simp) ?_
    refine AllReadyS.cons rfl (fun K hK => ?_) AllReadyS.nil
    go_simp
    refine hK.out _ _ (fun h => absurd h (by decide)) ?_
    refine wpAnyS_done (by kernel_rfl) ?_ _
    refine HN.out _ _ _ _ ((hko7.trans (st4_keeps _ _ _ ⟨k, k, j, ⟨none, 0, 0⟩⟩)).trans (KeepsOthers.setCell _ _ _)) ?_ HA.out.1
    exact (Gr.setCell (X := fun b => b = w.heap.size + 1) _ _ _ rfl).blk ((st4_gr (X := fun b => b = g) _ _ _ ⟨k, k, j, ⟨none, 0, 0⟩⟩ rfl).blk hbn7 hgn) hbv
  · go_simp
    refine hK.out _ _ (fun h => absurd h (by decide)) ?_
    clear hK
    have fr : ∀ i, (w2.setCell ⟨w.heap.size + 1, 0, none⟩ (.slice (some ⟨g, 0, none⟩) (cl.length + 1) cap)).frozen? ⟨g, i, none⟩ = w2.frozen? ⟨g, i, none⟩ := fun i => World.frozen?_setCell _ _ _ _
    have ce : ∀ i, (w2.setCell ⟨w.heap.size + 1, 0, none⟩ (.slice (some ⟨g, 0, none⟩) (cl.length + 1) cap)).cell? ⟨g, i, none⟩ = w2.cell? ⟨g, i, none⟩ := fun i => World.cell?_setCell_far _ _ _ _ (fun e => hgB e.symm)
    rw [← ce] at z0 z1 z2 z3
    rw [← fr] at f0 f1 f2 f3
    refine wpAnyS_ready (rs := [9]) (by kernel_rfl) (by simp) ?_
    refine AllReadyS.cons rfl (fun K hK => ?_) AllReadyS.nil
    go_simp
    refine hK.out _ _ (fun h => absurd h (by decide)) ?_
    refine wpAnyS_done (by kernel_rfl) ?_ _
    refine HN.out _ _ _ _ ((hko7.trans (KeepsOthers.setCell _ _ _)).trans (st4_keeps _ _ _ ⟨k, k, j, ⟨none, 0, 0⟩⟩)) ?_ HA.out.2
    exact (st4_gr (X := fun b => b = g) _ _ _ ⟨k, k, j, ⟨none, 0, 0⟩⟩ rfl).blk ((Gr.setCell (X := fun b => b = w.heap.size + 1) _ _ _ rfl).blk hbn7 hbv) hgn
end
end Go.Proofs.Ytlmbffnmjfbglab
/- Regions of the search's rounds: an offset appended, and cut off again. -/
namespace Go.Proofs.Ytlmbffnmjfbglab
open Go.ChangeShapes Go.WideShapes Go.ChangeAt Go.RowKit

theorem add_zero_addr (a : Addr) : a.add 0 = a := by
  unfold Addr.add; split <;> simp_all
theorem map_add_zero (A : Option Addr) : A.map (fun x => x.add 0) = A := by
  cases A with
  | none => rfl
  | some a => simp [add_zero_addr]
theorem slice3_full (A : Option Addr) (n co : Nat) (h : n ≤ co) (W : World) : (Instr.sliceAt 28 (.slice A n co) none (some (.int .i64 n)) (some (.int .i64 n))).run Try.prog W = .ok (.slice A n n) W := by
  have h0 : (0 : Int) ≤ (n : Int) := by omega
  have h1 : (n : Int) ≤ (co : Int) := by omega
  simp [go_sem, h0, h1, sliced, map_add_zero]
theorem slice_to (A : Option Addr) (m n co : Nat) (h : n ≤ co) (W : World) : (Instr.sliceAt 28 (.slice A m co) none (some (.int .i64 n)) none).run Try.prog W = .ok (.slice A n co) W := by
  have h0 : (0 : Int) ≤ (n : Int) := by omega
  have h1 : (n : Int) ≤ (co : Int) := by omega
  simp [go_sem, h0, h1, sliced, map_add_zero]

section
attribute [local go_sem] Oper.semAt_some
attribute [-go_sem] run_sliceAt_slice
variable {w : World} {Bs : Nat} {name : ByteArray} {mem F : Int} {A : Option Addr} {ps : List Part} {c n : Nat} {os : List Int} {t : Int} {cl : List Claim} {L : List CV} {Ao : Option Addr} {co : Nat}
set_option maxRecDepth 100000 in
set_option maxHeartbeats 4000000 in
theorem reg10_c {l m : Nat} (W : World) (Bn k : Nat) {V : Value} (h3 : RI0 w Bs name mem F A ps c os.length W os t cl V L Ao co) (hb : Blk W Bn 65 #[.pointer (some ⟨Bs, 0, none⟩)]) (hbB : Bn ≠ Bs) (hos : os.length ≤ 6)
    {x0 x2 x5 x6 x7 x8 x9 x10 x11 x12 x13 x14 x15 x16 x17 x18 x19 x20 x21 x22 x23 x24 x25 x26 x27 x28 x29 x30 x31 x32 x33 x34 x35 x36 x37 x38 x39 x40 x41 x42 x43 x44 x45 x46 x47 x48 x49 x50 x51 x52 x53 x54 x55 x56 x57 x58 x59 x60 x61 x62 x63 x64 x65 x66 x67 x68 x69 x70 x71 x72 x73 x74 x75 x76 x77 x78 x79 x80 x81 x82 x83 x84 x85 x86 x87 x88 x89 x90 x91 x92 x93 x94 x95 : Value} (Q : Exit → Act → World → Prop) (hQ : ¬ LetsOut Q) (hP0 : ∀ d v c a w, Q (.panic c) (Act.put a d v) w → Q (.panic c) a w)
    (hN : ∀ W' Ao' co' y46 y47 y48 y49 y50 y51 y52 y53 y54 y55 y56 y57 y58, KeepsOthers W W' → Blk W' Bn 65 #[.pointer (some ⟨Bs, 0, none⟩)] → RI0 w Bs name mem F A ps c os.length W' (os ++ [(k : Int)]) t cl V L Ao' co' → Q .normal { tmps := List.toArray (x0 :: Value.pointer (some ⟨w.heap.size, 0, none⟩) :: x2 :: Value.pointer (some ⟨w.heap.size + 2, 0, none⟩) :: Value.int .i64 k :: x5 :: x6 :: x7 :: x8 :: x9 :: x10 :: x11 :: x12 :: x13 :: x14 :: x15 :: x16 :: x17 :: x18 :: x19 :: x20 :: x21 :: x22 :: x23 :: x24 :: x25 :: x26 :: x27 :: x28 :: x29 :: x30 :: x31 :: x32 :: x33 :: x34 :: x35 :: x36 :: x37 :: x38 :: x39 :: x40 :: x41 :: x42 :: x43 :: x44 :: x45 :: y46 :: y47 :: y48 :: y49 :: y50 :: y51 :: y52 :: y53 :: y54 :: y55 :: y56 :: y57 :: y58 :: x59 :: x60 :: x61 :: x62 :: x63 :: x64 :: x65 :: x66 :: x67 :: x68 :: x69 :: x70 :: x71 :: x72 :: x73 :: x74 :: x75 :: x76 :: x77 :: x78 :: x79 :: x80 :: x81 :: x82 :: x83 :: x84 :: x85 :: x86 :: x87 :: x88 :: x89 :: x90 :: x91 :: x92 :: x93 :: x94 :: x95 :: []), defers := [] } W') :
    (reg37 10).wpIn (Fence.wide.inRound l) m Try.prog Q { tmps := List.toArray (x0 :: Value.pointer (some ⟨w.heap.size, 0, none⟩) :: x2 :: Value.pointer (some ⟨w.heap.size + 2, 0, none⟩) :: Value.int .i64 k :: x5 :: x6 :: x7 :: x8 :: x9 :: x10 :: x11 :: x12 :: x13 :: x14 :: x15 :: x16 :: x17 :: x18 :: x19 :: x20 :: x21 :: x22 :: x23 :: x24 :: x25 :: x26 :: x27 :: x28 :: x29 :: x30 :: x31 :: x32 :: x33 :: x34 :: x35 :: x36 :: x37 :: x38 :: x39 :: x40 :: x41 :: x42 :: x43 :: x44 :: x45 :: x46 :: x47 :: x48 :: x49 :: x50 :: x51 :: x52 :: x53 :: x54 :: x55 :: x56 :: x57 :: x58 :: x59 :: x60 :: x61 :: x62 :: x63 :: x64 :: x65 :: x66 :: x67 :: x68 :: x69 :: x70 :: x71 :: x72 :: x73 :: x74 :: x75 :: x76 :: x77 :: x78 :: x79 :: x80 :: x81 :: x82 :: x83 :: x84 :: x85 :: x86 :: x87 :: x88 :: x89 :: x90 :: x91 :: x92 :: x93 :: x94 :: x95 :: []), defers := [] } W := by
  have q0 : W.cell? ⟨w.heap.size, 0, none⟩ = some (.pointer (some ⟨Bs, 0, none⟩)) := h3.b0.cell 0
  have q2 : W.cell? ⟨w.heap.size + 2, 0, none⟩ = some (.int .i64 os.length) := h3.b2.cell 0
  obtain ⟨_, _, _, _, q4, _⟩ := h3.sb.cells
  obtain ⟨i0, hi0, hz0, hz1, hz2⟩ := info_parts info3
  have hlb := h3.sb.blk.lt
  refine wpIn_region_roundS (fun W' => W'.cell? ⟨w.heap.size, 0, none⟩ = some (.pointer (some ⟨Bs, 0, none⟩)) ∧ W'.cell? ⟨w.heap.size + 2, 0, none⟩ = some (.int .i64 os.length) ∧ W'.cell? ⟨Bs, 4, none⟩ = some (.slice Ao os.length co)) 13 (by kernel_rfl) (by kernel_rfl) hQ (by go_keep) (fun hHeld => ?_)
  have h4 := h3.below (W' := W.drew) (Below.refl _ W).drew
  have hko4 : KeepsOthers W W.drew := keeps_below (Below.refl _ W).drew
  have hbn4 : Blk W.drew Bn 65 #[.pointer (some ⟨Bs, 0, none⟩)] := hb.below (Below.refl _ W).drew hb.lt
  have HP := Lib.hid hP0
  have HN := Lib.hid hN
  have hsl := fun W => slice3_full Ao os.length co h3.sb.cap W
  clear h3 hb q0 q2 q4 hN hP0
  revert hko4 hbn4 hlb
  generalize W.drew = W4 at *
  intro hlb hko4 hbn4
  refine wpAnyS_take (i := 0) (v := ?_) rfl (by kernel_rfl) (by kernel_rfl) (by kernel_rfl) (by kernel_rfl) (fun c a w => HP.out _ _ c a w) (Or.inl ⟨by rfl, ?_⟩) hHeld ?_
  rotate_left
  · intro w hSw
    obtain ⟨hs0, hs2, hs4⟩ := hSw
    go_simp
    first | done | with_reducible rfl
  simp only [Act.put, List.setIfInBounds_toArray, List.set_cons_zero, List.set_cons_succ]
  refine wpAnyS_take (i := 1) (v := ?_) rfl (by kernel_rfl) (by kernel_rfl) (by kernel_rfl) (by kernel_rfl) (fun c a w => HP.out _ _ c a w) (Or.inl ⟨by rfl, ?_⟩) hHeld ?_
  rotate_left
  · intro w hSw
    obtain ⟨hs0, hs2, hs4⟩ := hSw
    go_simp
    first | done | with_reducible rfl
  simp only [Act.put, List.setIfInBounds_toArray, List.set_cons_zero, List.set_cons_succ]
  refine wpAnyS_take (i := 2) (v := ?_) rfl (by kernel_rfl) (by kernel_rfl) (by kernel_rfl) (by kernel_rfl) (fun c a w => HP.out _ _ c a w) (Or.inl ⟨by rfl, ?_⟩) hHeld ?_
  rotate_left
  · intro w hSw
    obtain ⟨hs0, hs2, hs4⟩ := hSw
    go_simp
    first | done | with_reducible rfl
  simp only [Act.put, List.setIfInBounds_toArray, List.set_cons_zero, List.set_cons_succ]
  refine wpAnyS_take (i := 3) (v := ?_) rfl (by kernel_rfl) (by kernel_rfl) (by kernel_rfl) (by kernel_rfl) (fun c a w => HP.out _ _ c a w) (Or.inl ⟨by rfl, ?_⟩) hHeld ?_
  rotate_left
  · intro w hSw
    obtain ⟨hs0, hs2, hs4⟩ := hSw
    go_simp
    first | done | with_reducible rfl
  simp only [Act.put, List.setIfInBounds_toArray, List.set_cons_zero, List.set_cons_succ]
  refine wpAnyS_take (i := 4) (v := ?_) rfl (by kernel_rfl) (by kernel_rfl) (by kernel_rfl) (by kernel_rfl) (fun c a w => HP.out _ _ c a w) (Or.inl ⟨by rfl, ?_⟩) hHeld ?_
  rotate_left
  · intro w hSw
    obtain ⟨hs0, hs2, hs4⟩ := hSw
    go_simp
    first | done | with_reducible rfl
  simp only [Act.put, List.setIfInBounds_toArray, List.set_cons_zero, List.set_cons_succ]
  refine wpAnyS_take (i := 5) (v := ?_) rfl (by kernel_rfl) (by kernel_rfl) (by kernel_rfl) (by kernel_rfl) (fun c a w => HP.out _ _ c a w) (Or.inl ⟨by rfl, ?_⟩) hHeld ?_
  rotate_left
  · intro w hSw
    obtain ⟨hs0, hs2, hs4⟩ := hSw
    go_simp
    first | done | with_reducible rfl
  simp only [Act.put, List.setIfInBounds_toArray, List.set_cons_zero, List.set_cons_succ]
  refine wpAnyS_take (i := 6) (v := ?_) rfl (by kernel_rfl) (by kernel_rfl) (by kernel_rfl) (by kernel_rfl) (fun c a w => HP.out _ _ c a w) (Or.inl ⟨by rfl, ?_⟩) hHeld ?_
  rotate_left
  · intro w hSw
    obtain ⟨hs0, hs2, hs4⟩ := hSw
    go_simp
    first | done | with_reducible rfl
  simp only [Act.put, List.setIfInBounds_toArray, List.set_cons_zero, List.set_cons_succ]
  refine wpAnyS_take (i := 7) (v := ?_) rfl (by kernel_rfl) (by kernel_rfl) (by kernel_rfl) (by kernel_rfl) (fun c a w => HP.out _ _ c a w) (Or.inl ⟨by rfl, ?_⟩) hHeld ?_
  rotate_left
  · intro w hSw
    obtain ⟨hs0, hs2, hs4⟩ := hSw
    go_simp
    first | done | with_reducible rfl
  simp only [Act.put, List.setIfInBounds_toArray, List.set_cons_zero, List.set_cons_succ]
  refine wpAnyS_take (i := 8) (v := ?_) rfl (by kernel_rfl) (by kernel_rfl) (by kernel_rfl) (by kernel_rfl) (fun c a w => HP.out _ _ c a w) (Or.inl ⟨by rfl, ?_⟩) hHeld ?_
  rotate_left
  · intro w hSw
    obtain ⟨hs0, hs2, hs4⟩ := hSw
    go_simp
    first | done | with_reducible rfl
  simp only [Act.put, List.setIfInBounds_toArray, List.set_cons_zero, List.set_cons_succ]
  refine wpAnyS_ready (rs := [9]) (by kernel_rfl) (by simp) ?_
  refine AllReadyS.cons rfl (fun K hK => ?_) AllReadyS.nil
  go_simp
  have hS5 : (W4.alloc (.cells #[.int .i64 k] 3)).cell? ⟨w.heap.size, 0, none⟩ = some (.pointer (some ⟨Bs, 0, none⟩)) ∧ (W4.alloc (.cells #[.int .i64 k] 3)).cell? ⟨w.heap.size + 2, 0, none⟩ = some (.int .i64 os.length) ∧ (W4.alloc (.cells #[.int .i64 k] 3)).cell? ⟨Bs, 4, none⟩ = some (.slice Ao os.length co) := by go_keep
  refine hK.out _ _ (fun _ => hS5) ?_
  clear hK hHeld
  refine wpAnyS_ready (rs := [10]) (by kernel_rfl) (by simp) ?_
  refine AllReadyS.cons rfl (fun K hK => ?_) AllReadyS.nil
  have h5 := h4.below (W' := W4.alloc (.cells #[.int .i64 k] 3)) ((Below.refl _ W4).alloc (Nat.le_refl _) _)
  have hof := h5.sb.of
  refine step_append_new _ (by rfl) (.tmp 53) (.tmp 55) 28 (by rfl) 3 i0 _ 1 8 Try.underlying28 hi0 hz0 hz1 hz2 (by rfl) (by decide) Ao os.length os.length (os.map (Value.int .i64)) (by rfl) (fun e => ?_) (by simp) (fun b e j u hj => ?_) ⟨W4.heap.size, 0, none⟩ 1 1 [.int .i64 k] (by rfl) (by rfl) (World.news_of_block (cs := #[.int .i64 k]) (t := 3) (fr := (0, 0)) (heap_alloc_new W4 _)) (by simp [Value.oneCell']) (by omega) (by unfold maxLen; omega) (by omega) (by omega) ?_
  · rcases Nat.eq_zero_or_pos os.length with h0 | h0
    · exact ⟨h0, h0⟩
    · obtain ⟨b, o, e2, _⟩ := hof h0
      rw [e] at e2; cases e2
  · subst e
    have hj2 : j < os.length := by
      rcases Nat.lt_or_ge j os.length with h | h
      · exact h
      · rw [List.getElem?_eq_none (by simpa using h)] at hj; cases hj
    obtain ⟨b', o, e2, _, hc⟩ := hof (by omega)
    injection e2 with e2
    subst e2
    have := hc j hj2
    rw [List.getElem?_map, List.getElem?_eq_getElem hj2] at hj
    injection hj with hj
    subst hj
    rw [Addr.add_lit]
    exact this
  intro g cap w2 hown2 hgrow
  have hoff := h5.off k hgrow hown2
  have hlb5 := h5.sb.blk.lt
  have hS7 : w2.cell? ⟨w.heap.size, 0, none⟩ = some (.pointer (some ⟨Bs, 0, none⟩)) ∧ w2.cell? ⟨w.heap.size + 2, 0, none⟩ = some (.int .i64 os.length) ∧ w2.cell? ⟨Bs, 4, none⟩ = some (.slice Ao os.length co) :=
    have hz5 := h5.size
    ⟨(World.cell?_of_block (hgrow.block _ (by simp at hz5 ⊢; omega) (by simp))).trans hS5.1, (World.cell?_of_block (hgrow.block _ (by simp at hz5 ⊢; omega) (by simp))).trans hS5.2.1, (World.cell?_of_block (hgrow.block _ hlb5 (by simp))).trans hS5.2.2⟩
  refine hK.out _ _ (fun _ => hS7) ?_
  clear hK
  have f4 : w2.frozen? ⟨Bs, 4, none⟩ = false := (h5.sb.blk.grown hgrow (by simp)).frozen 4
  have HO := Lib.hid hoff
  clear hoff h5 h4 hown2 hgrow hof hS5
  simp only [Act.put, List.setIfInBounds_toArray, List.set_cons_zero, List.set_cons_succ]
  refine wpAnyS_take (i := 11) (v := ?_) rfl (by kernel_rfl) (by kernel_rfl) (by kernel_rfl) (by kernel_rfl) (fun c a w => HP.out _ _ c a w) (Or.inl ⟨by rfl, ?_⟩) hS7 ?_
  rotate_left
  · intro w hSw
    obtain ⟨hs0, hs2, hs4⟩ := hSw
    go_simp
    first | done | with_reducible rfl
  simp only [Act.put, List.setIfInBounds_toArray, List.set_cons_zero, List.set_cons_succ]
  refine wpAnyS_take (i := 12) (v := ?_) rfl (by kernel_rfl) (by kernel_rfl) (by kernel_rfl) (by kernel_rfl) (fun c a w => HP.out _ _ c a w) (Or.inl ⟨by rfl, ?_⟩) hS7 ?_
  rotate_left
  · intro w hSw
    obtain ⟨hs0, hs2, hs4⟩ := hSw
    go_simp
    first | done | with_reducible rfl
  simp only [Act.put, List.setIfInBounds_toArray, List.set_cons_zero, List.set_cons_succ]
  obtain ⟨_, _, q4⟩ := hS7
  refine wpAnyS_ready (rs := [13]) (by kernel_rfl) (by simp) ?_
  refine AllReadyS.cons rfl (fun K hK => ?_) AllReadyS.nil
  go_simp
  refine hK.out _ _ (fun h => absurd h (by decide)) ?_
  refine wpAnyS_done (by kernel_rfl) ?_ _
  obtain ⟨o1, o2, o3⟩ := HO.out
  exact HN.out _ _ _ _ _ _ _ _ _ _ _ _ _ _ _ _ (((hko4.trans (KeepsOthers.alloc _ _))).trans o2) (o3 _ _ _ hbB (hbn4.alloc _)) o1
set_option maxRecDepth 100000 in
set_option maxHeartbeats 4000000 in
theorem reg12_c {l m : Nat} (W : World) (Bn : Nat) (k : Int) {V : Value} (h3 : RI0 w Bs name mem F A ps c os.length W (os ++ [k]) t cl V L Ao co) (hb : Blk W Bn 65 #[.pointer (some ⟨Bs, 0, none⟩)]) (hbB : Bn ≠ Bs)
    {x0 x2 x4 x5 x6 x7 x8 x9 x10 x11 x12 x13 x14 x15 x16 x17 x18 x19 x20 x21 x22 x23 x24 x25 x26 x27 x28 x29 x30 x31 x32 x33 x34 x35 x36 x37 x38 x39 x40 x41 x42 x43 x44 x45 x46 x47 x48 x49 x50 x51 x52 x53 x54 x55 x56 x57 x58 x59 x60 x61 x62 x63 x64 x65 x66 x67 x68 x69 x70 x71 x72 x73 x74 x75 x76 x77 x78 x79 x80 x81 x82 x83 x84 x85 x86 x87 x88 x89 x90 x91 x92 x93 x94 x95 : Value} (Q : Exit → Act → World → Prop) (hQ : ¬ LetsOut Q) (hP0 : ∀ d v c a w, Q (.panic c) (Act.put a d v) w → Q (.panic c) a w)
    (hN : ∀ a' W', KeepsOthers W W' → Blk W' Bn 65 #[.pointer (some ⟨Bs, 0, none⟩)] → RI0 w Bs name mem F A ps c os.length W' os t cl V L Ao co → Q .normal a' W') :
    (reg37 12).wpIn (Fence.wide.inRound l) m Try.prog Q { tmps := List.toArray (x0 :: Value.pointer (some ⟨w.heap.size, 0, none⟩) :: x2 :: Value.pointer (some ⟨w.heap.size + 2, 0, none⟩) :: x4 :: x5 :: x6 :: x7 :: x8 :: x9 :: x10 :: x11 :: x12 :: x13 :: x14 :: x15 :: x16 :: x17 :: x18 :: x19 :: x20 :: x21 :: x22 :: x23 :: x24 :: x25 :: x26 :: x27 :: x28 :: x29 :: x30 :: x31 :: x32 :: x33 :: x34 :: x35 :: x36 :: x37 :: x38 :: x39 :: x40 :: x41 :: x42 :: x43 :: x44 :: x45 :: x46 :: x47 :: x48 :: x49 :: x50 :: x51 :: x52 :: x53 :: x54 :: x55 :: x56 :: x57 :: x58 :: x59 :: x60 :: x61 :: x62 :: x63 :: x64 :: x65 :: x66 :: x67 :: x68 :: x69 :: x70 :: x71 :: x72 :: x73 :: x74 :: x75 :: x76 :: x77 :: x78 :: x79 :: x80 :: x81 :: x82 :: x83 :: x84 :: x85 :: x86 :: x87 :: x88 :: x89 :: x90 :: x91 :: x92 :: x93 :: x94 :: x95 :: []), defers := [] } W := by
  have q0 : W.cell? ⟨w.heap.size, 0, none⟩ = some (.pointer (some ⟨Bs, 0, none⟩)) := h3.b0.cell 0
  have q2 : W.cell? ⟨w.heap.size + 2, 0, none⟩ = some (.int .i64 os.length) := h3.b2.cell 0
  obtain ⟨_, _, _, _, q4, _⟩ := h3.sb.cells
  have hlb := h3.sb.blk.lt
  have hcap := h3.sb.cap
  simp only [List.length_append, List.length_cons, List.length_nil, Nat.zero_add] at q4 hcap
  refine wpIn_region_roundS (fun W' => W'.cell? ⟨w.heap.size, 0, none⟩ = some (.pointer (some ⟨Bs, 0, none⟩)) ∧ W'.cell? ⟨w.heap.size + 2, 0, none⟩ = some (.int .i64 os.length) ∧ W'.cell? ⟨Bs, 4, none⟩ = some (.slice Ao (os.length + 1) co)) 9 (by kernel_rfl) (by kernel_rfl) hQ (by go_keep) (fun hHeld => ?_)
  have h4 := h3.below (W' := W.drew) (Below.refl _ W).drew
  have hko4 : KeepsOthers W W.drew := keeps_below (Below.refl _ W).drew
  have hbn4 : Blk W.drew Bn 65 #[.pointer (some ⟨Bs, 0, none⟩)] := hb.below (Below.refl _ W).drew hb.lt
  have hfz := h4.sb.blk.frozen 4
  have HP := Lib.hid hP0
  have HN := Lib.hid hN
  have hsl := fun W => slice_to Ao (os.length + 1) os.length co (by omega) W
  clear h3 hb q0 q2 q4 hN hP0 hcap
  revert hko4 hbn4 hlb hfz
  generalize W.drew = W4 at *
  intro hlb hko4 hbn4 hfz
  refine wpAnyS_take (i := 0) (v := ?_) rfl (by kernel_rfl) (by kernel_rfl) (by kernel_rfl) (by kernel_rfl) (fun c a w => HP.out _ _ c a w) (Or.inl ⟨by rfl, ?_⟩) hHeld ?_
  rotate_left
  · intro w hSw
    obtain ⟨hs0, hs2, hs4⟩ := hSw
    go_simp
    first | done | with_reducible rfl
  simp only [Act.put, List.setIfInBounds_toArray, List.set_cons_zero, List.set_cons_succ]
  refine wpAnyS_take (i := 1) (v := ?_) rfl (by kernel_rfl) (by kernel_rfl) (by kernel_rfl) (by kernel_rfl) (fun c a w => HP.out _ _ c a w) (Or.inl ⟨by rfl, ?_⟩) hHeld ?_
  rotate_left
  · intro w hSw
    obtain ⟨hs0, hs2, hs4⟩ := hSw
    go_simp
    first | done | with_reducible rfl
  simp only [Act.put, List.setIfInBounds_toArray, List.set_cons_zero, List.set_cons_succ]
  refine wpAnyS_take (i := 2) (v := ?_) rfl (by kernel_rfl) (by kernel_rfl) (by kernel_rfl) (by kernel_rfl) (fun c a w => HP.out _ _ c a w) (Or.inl ⟨by rfl, ?_⟩) hHeld ?_
  rotate_left
  · intro w hSw
    obtain ⟨hs0, hs2, hs4⟩ := hSw
    go_simp
    first | done | with_reducible rfl
  simp only [Act.put, List.setIfInBounds_toArray, List.set_cons_zero, List.set_cons_succ]
  refine wpAnyS_take (i := 3) (v := ?_) rfl (by kernel_rfl) (by kernel_rfl) (by kernel_rfl) (by kernel_rfl) (fun c a w => HP.out _ _ c a w) (Or.inl ⟨by rfl, ?_⟩) hHeld ?_
  rotate_left
  · intro w hSw
    obtain ⟨hs0, hs2, hs4⟩ := hSw
    go_simp
    first | done | with_reducible rfl
  simp only [Act.put, List.setIfInBounds_toArray, List.set_cons_zero, List.set_cons_succ]
  refine wpAnyS_take (i := 4) (v := ?_) rfl (by kernel_rfl) (by kernel_rfl) (by kernel_rfl) (by kernel_rfl) (fun c a w => HP.out _ _ c a w) (Or.inl ⟨by rfl, ?_⟩) hHeld ?_
  rotate_left
  · intro w hSw
    obtain ⟨hs0, hs2, hs4⟩ := hSw
    go_simp
    first | done | with_reducible rfl
  simp only [Act.put, List.setIfInBounds_toArray, List.set_cons_zero, List.set_cons_succ]
  refine wpAnyS_take (i := 5) (v := ?_) rfl (by kernel_rfl) (by kernel_rfl) (by kernel_rfl) (by kernel_rfl) (fun c a w => HP.out _ _ c a w) (Or.inl ⟨by rfl, ?_⟩) hHeld ?_
  rotate_left
  · intro w hSw
    obtain ⟨hs0, hs2, hs4⟩ := hSw
    go_simp
    first | done | with_reducible rfl
  simp only [Act.put, List.setIfInBounds_toArray, List.set_cons_zero, List.set_cons_succ]
  refine wpAnyS_take (i := 6) (v := ?_) rfl (by kernel_rfl) (by kernel_rfl) (by kernel_rfl) (by kernel_rfl) (fun c a w => HP.out _ _ c a w) (Or.inl ⟨by rfl, ?_⟩) hHeld ?_
  rotate_left
  · intro w hSw
    obtain ⟨hs0, hs2, hs4⟩ := hSw
    go_simp
    first | done | with_reducible rfl
  simp only [Act.put, List.setIfInBounds_toArray, List.set_cons_zero, List.set_cons_succ]
  refine wpAnyS_take (i := 7) (v := ?_) rfl (by kernel_rfl) (by kernel_rfl) (by kernel_rfl) (by kernel_rfl) (fun c a w => HP.out _ _ c a w) (Or.inl ⟨by rfl, ?_⟩) hHeld ?_
  rotate_left
  · intro w hSw
    obtain ⟨hs0, hs2, hs4⟩ := hSw
    go_simp
    first | done | with_reducible rfl
  simp only [Act.put, List.setIfInBounds_toArray, List.set_cons_zero, List.set_cons_succ]
  refine wpAnyS_take (i := 8) (v := ?_) rfl (by kernel_rfl) (by kernel_rfl) (by kernel_rfl) (by kernel_rfl) (fun c a w => HP.out _ _ c a w) (Or.inl ⟨by rfl, ?_⟩) hHeld ?_
  rotate_left
  · intro w hSw
    obtain ⟨hs0, hs2, hs4⟩ := hSw
    go_simp
    first | done | with_reducible rfl
  simp only [Act.put, List.setIfInBounds_toArray, List.set_cons_zero, List.set_cons_succ]
  obtain ⟨_, _, q4⟩ := hHeld
  refine wpAnyS_ready (rs := [9]) (by kernel_rfl) (by simp) ?_
  refine AllReadyS.cons rfl (fun K hK => ?_) AllReadyS.nil
  go_simp
  refine hK.out _ _ (fun h => absurd h (by decide)) ?_
  refine wpAnyS_done (by kernel_rfl) ?_ _
  obtain ⟨o1, o3⟩ := h4.cut (.slice Ao os.length co) rfl
  exact HN.out _ _ (hko4.trans (KeepsOthers.setCell _ _ _)) (o3 _ _ _ hbB hbn4) o1
end
end Go.Proofs.Ytlmbffnmjfbglab
/- A region of the search's rounds: the search of the next partition, and its claim. -/
namespace Go.Proofs.Ytlmbffnmjfbglab
open Go.ChangeShapes Go.WideShapes Go.ChangeAt Go.RowKit

section
attribute [local go_sem] Oper.semAt_some
variable {w : World} {Bs : Nat} {name : ByteArray} {mem F : Int} {A : Option Addr} {ps : List Part} {c n : Nat} {os : List Int} {t : Nat} {cl : List Claim} {L : List CV} {Ao : Option Addr} {co : Nat}
set_option maxRecDepth 100000 in
set_option maxHeartbeats 4000000 in
theorem reg11_c {l m : Nat} (r : Nat)
    (ih : ∀ (W : World) (Ao : Option Addr) (os : List Int) (co t : Nat), SB W Bs name mem F A ps c Ao os co t → OT W Ao os → os.length + r = ps.length → t ≤ 65536 → Calls Try.prog 37 #[.pointer (some ⟨Bs, 0, none⟩)] W (TryPost W Bs name mem F A ps c os t r))
    (W : World) (VA : Option Addr) (Vc Bn k : Nat) (h3 : RI0 w Bs name mem F A ps c n W os t cl (.slice VA cl.length Vc) L Ao co) (hb : Blk W Bn 65 #[.pointer (some ⟨Bs, 0, none⟩)]) (hbB : Bn ≠ Bs) (hcl : cl.length ≤ 2000) (hn : os.length + r = ps.length) (ht : t ≤ 65536)
    {x0 x3 x5 x6 x7 x8 x9 x10 x11 x12 x13 x14 x15 x16 x17 x18 x19 x20 x21 x22 x23 x24 x25 x26 x27 x28 x29 x30 x31 x32 x33 x34 x35 x36 x37 x38 x39 x40 x41 x42 x43 x44 x45 x46 x47 x48 x49 x50 x51 x52 x53 x54 x55 x56 x57 x58 x59 x60 x61 x62 x63 x64 x65 x66 x67 x68 x69 x70 x71 x72 x73 x74 x75 x76 x77 x78 x79 x80 x81 x82 x83 x84 x85 x86 x87 x88 x89 x90 x91 x92 x93 x94 x95 : Value} (Q : Exit → Act → World → Prop) (hQ : ¬ LetsOut Q) (hP0 : ∀ d v c a w, Q (.panic c) (Act.put a d v) w → Q (.panic c) a w)
    (hN : ∀ W' V' L' Ao' co' sub t' y59 y60 y61 y62 y63 y64 y65 y66 y67 y68, tryR ps r os t = .claims sub t' → KeepsOthers W W' → Blk W' Bn 65 #[.pointer (some ⟨Bs, 0, none⟩)] → RI0 w Bs name mem F A ps c n W' os t' (cl ++ [.mk k k (-1) sub]) V' L' Ao' co' → Q .normal { tmps := List.toArray (x0 :: Value.pointer (some ⟨w.heap.size, 0, none⟩) :: Value.pointer (some ⟨w.heap.size + 1, 0, none⟩) :: x3 :: Value.int .i64 k :: x5 :: x6 :: x7 :: x8 :: x9 :: x10 :: x11 :: x12 :: x13 :: x14 :: x15 :: x16 :: x17 :: x18 :: x19 :: x20 :: x21 :: x22 :: x23 :: x24 :: x25 :: x26 :: x27 :: x28 :: x29 :: x30 :: x31 :: x32 :: x33 :: x34 :: x35 :: x36 :: x37 :: x38 :: x39 :: x40 :: x41 :: x42 :: x43 :: x44 :: x45 :: x46 :: x47 :: x48 :: x49 :: x50 :: x51 :: x52 :: x53 :: x54 :: x55 :: x56 :: x57 :: x58 :: y59 :: y60 :: y61 :: y62 :: y63 :: y64 :: y65 :: y66 :: y67 :: y68 :: x69 :: x70 :: x71 :: x72 :: x73 :: x74 :: x75 :: x76 :: x77 :: x78 :: x79 :: x80 :: x81 :: x82 :: x83 :: x84 :: x85 :: x86 :: x87 :: x88 :: x89 :: x90 :: x91 :: x92 :: x93 :: x94 :: x95 :: []), defers := [] } W')
    (hE : ∀ W' a er A' c' a', a'.defers = [] → tryR ps r os t = .stop a er → KeepsOthers W W' → w.grownBy W' (some Bs) → RdF w.heap.size W' A' a → a.length ≤ c' → Q (.panic [{ v := .iface 63 (.agg #[.slice A' a.length c', .int .i64 er]), recovered := false }]) a' W') :
    (reg37 11).wpIn (Fence.wide.inRound l) m Try.prog Q { tmps := List.toArray (x0 :: Value.pointer (some ⟨w.heap.size, 0, none⟩) :: Value.pointer (some ⟨w.heap.size + 1, 0, none⟩) :: x3 :: Value.int .i64 k :: x5 :: x6 :: x7 :: x8 :: x9 :: x10 :: x11 :: x12 :: x13 :: x14 :: x15 :: x16 :: x17 :: x18 :: x19 :: x20 :: x21 :: x22 :: x23 :: x24 :: x25 :: x26 :: x27 :: x28 :: x29 :: x30 :: x31 :: x32 :: x33 :: x34 :: x35 :: x36 :: x37 :: x38 :: x39 :: x40 :: x41 :: x42 :: x43 :: x44 :: x45 :: x46 :: x47 :: x48 :: x49 :: x50 :: x51 :: x52 :: x53 :: x54 :: x55 :: x56 :: x57 :: x58 :: x59 :: x60 :: x61 :: x62 :: x63 :: x64 :: x65 :: x66 :: x67 :: x68 :: x69 :: x70 :: x71 :: x72 :: x73 :: x74 :: x75 :: x76 :: x77 :: x78 :: x79 :: x80 :: x81 :: x82 :: x83 :: x84 :: x85 :: x86 :: x87 :: x88 :: x89 :: x90 :: x91 :: x92 :: x93 :: x94 :: x95 :: []), defers := [] } W := by
  have q0 : W.cell? ⟨w.heap.size, 0, none⟩ = some (.pointer (some ⟨Bs, 0, none⟩)) := h3.b0.cell 0
  have q1 : W.cell? ⟨w.heap.size + 1, 0, none⟩ = some (.slice VA cl.length Vc) := h3.b1.cell 0
  obtain ⟨i0, hi0, hz0, hz1, hz2⟩ := info_parts info35
  refine wpIn_region_roundS (fun W' => W'.cell? ⟨w.heap.size + 1, 0, none⟩ = some (.slice VA cl.length Vc) ∧ W'.cell? ⟨w.heap.size, 0, none⟩ = some (.pointer (some ⟨Bs, 0, none⟩))) 11 (by kernel_rfl) (by kernel_rfl) hQ (by go_keep) (fun hHeld => ?_)
  have h4 := h3.below (W' := W.drew) (Below.refl _ W).drew
  have hko4 : KeepsOthers W W.drew := keeps_below (Below.refl _ W).drew
  have hbn4 : Blk W.drew Bn 65 #[.pointer (some ⟨Bs, 0, none⟩)] := hb.below (Below.refl _ W).drew hb.lt
  have HP := Lib.hid hP0
  have HN := Lib.hid hN
  have HE := Lib.hid hE
  clear h3 hb q0 q1 hN hP0 hE
  revert hko4 hbn4
  generalize W.drew = W4 at *
  intro hko4 hbn4
  refine wpAnyS_take (i := 0) (v := ?_) rfl (by kernel_rfl) (by kernel_rfl) (by kernel_rfl) (by kernel_rfl) (fun c a w => HP.out _ _ c a w) (Or.inl ⟨by rfl, ?_⟩) hHeld ?_
  rotate_left
  · intro w hSw
    obtain ⟨hs1, hs0⟩ := hSw
    go_simp
    first | done | with_reducible rfl
  simp only [Act.put, List.setIfInBounds_toArray, List.set_cons_zero, List.set_cons_succ]
  refine wpAnyS_take (i := 1) (v := ?_) rfl (by kernel_rfl) (by kernel_rfl) (by kernel_rfl) (by kernel_rfl) (fun c a w => HP.out _ _ c a w) (Or.inl ⟨by rfl, ?_⟩) hHeld ?_
  rotate_left
  · intro w hSw
    obtain ⟨hs1, hs0⟩ := hSw
    go_simp
    first | done | with_reducible rfl
  simp only [Act.put, List.setIfInBounds_toArray, List.set_cons_zero, List.set_cons_succ]
  refine wpAnyS_take (i := 2) (v := ?_) rfl (by kernel_rfl) (by kernel_rfl) (by kernel_rfl) (by kernel_rfl) (fun c a w => HP.out _ _ c a w) (Or.inl ⟨by rfl, ?_⟩) hHeld ?_
  rotate_left
  · intro w hSw
    obtain ⟨hs1, hs0⟩ := hSw
    go_simp
    first | done | with_reducible rfl
  simp only [Act.put, List.setIfInBounds_toArray, List.set_cons_zero, List.set_cons_succ]
  refine wpAnyS_take (i := 3) (v := ?_) rfl (by kernel_rfl) (by kernel_rfl) (by kernel_rfl) (by kernel_rfl) (fun c a w => HP.out _ _ c a w) (Or.inl ⟨by rfl, ?_⟩) hHeld ?_
  rotate_left
  · intro w hSw
    obtain ⟨hs1, hs0⟩ := hSw
    go_simp
    first | done | with_reducible rfl
  simp only [Act.put, List.setIfInBounds_toArray, List.set_cons_zero, List.set_cons_succ]
  refine wpAnyS_take (i := 6) (v := ?_) rfl (by kernel_rfl) (by kernel_rfl) (by kernel_rfl) (by kernel_rfl) (fun c a w => HP.out _ _ c a w) (Or.inl ⟨by rfl, ?_⟩) hHeld ?_
  rotate_left
  · intro w hSw
    obtain ⟨hs1, hs0⟩ := hSw
    go_simp
    first | done | with_reducible rfl
  simp only [Act.put, List.setIfInBounds_toArray, List.set_cons_zero, List.set_cons_succ]
  refine wpAnyS_ready (rs := [4, 7]) (by kernel_rfl) (by simp) ?_
  refine AllReadyS.cons rfl (fun K hK => ?_) (AllReadyS.cons rfl (fun K hK => ?_) AllReadyS.nil)
  · go_simp
    refine (ih W4 Ao os co t h4.sb h4.fo hn ht).mono ?_
    rintro e W5 ⟨hgr, hc, hst⟩
    cases hR : tryR ps r os t with
    | stop a er =>
      obtain ⟨A', c', hcp, rfl, hri⟩ := hst a er hR
      exact HE.out _ a er A' c' _ rfl hR (hko4.trans (h4.keeps hgr)) (h4.stopped hgr) (hri.mono (by have := h4.size; omega)) hcp
    | claims sub t' =>
      obtain ⟨A', c', rfl, hc1, hc2', hrd, Ao5, co5, hsb5, hfo5⟩ := hc sub t' hR
      obtain ⟨h5, hr5, hko45, hbk⟩ := h4.called hgr hsb5 hfo5 hrd
      have hbn5 := hbk Bn _ _ hbB hbn4
      have hko5 := hko4.trans hko45
      have hS6 : W5.cell? ⟨w.heap.size + 1, 0, none⟩ = some (.slice VA cl.length Vc) ∧ W5.cell? ⟨w.heap.size, 0, none⟩ = some (.pointer (some ⟨Bs, 0, none⟩)) := ⟨h5.b1.cell 0, h5.b0.cell 0⟩
      refine hK.out _ _ (fun _ => hS6) ?_
      clear hK hHeld hc hst hko45 hrd hsb5 hfo5 hgr ih HE hko4
      clear hbk hbn4 h4
      try simp only [Act.put, List.setIfInBounds_toArray, List.set_cons_zero, List.set_cons_succ]
      refine wpAnyS_takeT (i := 5) (v := ?_) rfl (by kernel_rfl) (by kernel_rfl) (by kernel_rfl) (by kernel_rfl) (fun c a w => HP.out _ _ c a w) (Or.inl ⟨by rfl, ?_⟩) hS6 ?_
      rotate_left
      · intro w hSw
        (try dsimp only at hSw)
        go_simp
        first | done | with_reducible rfl
      simp only [Act.put, List.setIfInBounds_toArray, List.set_cons_zero, List.set_cons_succ]
      refine wpAnyS_ready (rs := [7]) (by kernel_rfl) (by simp) ?_
      refine AllReadyS.cons rfl (fun K hK => ?_) AllReadyS.nil
      go_simp
      have hb6 : Below W5.heap.size W5 (W5.alloc (.cells #[.int .i64 0, .int .i64 0, .int .i64 0, .slice none 0 0] 35)) := (Below.refl _ W5).alloc (Nat.le_refl _) _
      have hG0 : Blk (W5.alloc (.cells #[.int .i64 0, .int .i64 0, .int .i64 0, .slice none 0 0] 35)) W5.heap.size 35 _ := Blk.new W5 35 #[.int .i64 0, .int .i64 0, .int .i64 0, .slice none 0 0]
      replace h5 := h5.below hb6
      replace hr5 := hr5.below hb6
      replace hbn5 := hbn5.below hb6 hbn5.lt
      replace hko5 := hko5.trans (keeps_below hb6)
      have hS6' : (W5.alloc (.cells #[.int .i64 0, .int .i64 0, .int .i64 0, .slice none 0 0] 35)).cell? ⟨w.heap.size + 1, 0, none⟩ = some (.slice VA cl.length Vc) ∧ (W5.alloc (.cells #[.int .i64 0, .int .i64 0, .int .i64 0, .slice none 0 0] 35)).cell? ⟨w.heap.size, 0, none⟩ = some (.pointer (some ⟨Bs, 0, none⟩)) := ⟨h5.b1.cell 0, h5.b0.cell 0⟩
      refine hK.out _ _ (fun _ => hS6') ?_
      clear hK hS6 hb6
      generalize hG : W5.heap.size = G0 at *
      clear hG
      generalize W5.alloc (.cells #[.int .i64 0, .int .i64 0, .int .i64 0, .slice none 0 0] 35) = W6 at *
      try simp only [Act.put, List.setIfInBounds_toArray, List.set_cons_zero, List.set_cons_succ]
      refine wpAnyS_ready (rs := [8]) (by kernel_rfl) (by simp) ?_
      refine AllReadyS.cons rfl (fun K hK => ?_) AllReadyS.nil
      have hz5 := h5.size
      refine step_append_lies _ (by rfl) (.tmp 59) (.tmp 66) 29 (by rfl) (w.heap.size + 3) 35 i0 _ 4 48 Try.underlying29 hi0 hz0 hz1 hz2 (by rfl) (by decide) (.slice VA cl.length Vc) cl.length _ (by rfl) h5.own ⟨G0, 0, none⟩ 1 1 [.int .i64 0, .int .i64 0, .int .i64 0, .slice none 0 0] (by rfl) (by rfl) (World.news_of_block (cs := #[.int .i64 0, .int .i64 0, .int .i64 0, .slice none 0 0]) (t := 35) (fr := (0, 0)) hG0) (by simp [Value.oneCell']) (by omega) (by unfold maxLen; omega) (by omega) (by omega) _ rfl ?_
      intro g cap w2 hown2 hgrow hg hgl
      have hgB : g ≠ w.heap.size + 1 := fun e => by
        rcases hg with hg | hg
        · have := (h5.ownNe hg).1; omega
        · omega
      have hg0 : g ≠ w.heap.size := fun e => by
        rcases hg with hg | hg
        · have := (h5.ownNe hg).1; omega
        · omega
      have hS7 : w2.cell? ⟨w.heap.size + 1, 0, none⟩ = some (.slice VA cl.length Vc) ∧ w2.cell? ⟨w.heap.size, 0, none⟩ = some (.pointer (some ⟨Bs, 0, none⟩)) := ⟨(World.cell?_of_block (hgrow.block (w.heap.size + 1) (by omega) (fun e => by have := (h5.ownNe e.symm).1; omega))).trans (h5.b1.cell 0), (World.cell?_of_block (hgrow.block w.heap.size (by omega) (fun e => by have := (h5.ownNe e.symm).1; omega))).trans (h5.b0.cell 0)⟩
      have hb7 : Blk w2 (w.heap.size + 1) 29 #[.slice VA cl.length Vc] := (hgrow.block (w.heap.size + 1) (by omega) (fun e => by have := (h5.ownNe e.symm).1; omega)).trans h5.b1
      have fB := hb7.frozen 0
      refine hK.out _ _ (fun _ => hS7) ?_
      clear hK
      have hi0 : (0 : Int) ≤ (cl.length : Int) := by omega
      have hi1 : (cl.length : Int) < (cl.length : Int) + 1 := by omega
      have hLl : (L.flatMap CV.cells).length = cl.length * 4 := by rw [CV.len, h5.cvs.1]
      have hc2 : ∀ j v, ([.int .i64 0, .int .i64 0, .int .i64 0, .slice none 0 0] : List Value)[j]? = some v → w2.cell? ⟨g, cl.length * 4 + j, none⟩ = some v := fun j v hv => by
        have := hown2.cells (g := g) rfl (cl.length * 4 + j) v (by rw [List.getElem?_append_right (by omega), hLl, show cl.length * 4 + j - cl.length * 4 = j by omega]; exact hv)
        rw [add_none] at this
        simpa using this
      have z0 := hc2 0 _ rfl
      have z1 := hc2 1 _ rfl
      have z2 := hc2 2 _ rfl
      have z3 := hc2 3 _ rfl
      have f0 := hown2.frozenAt (cl.length * 4 + 0)
      have f1 := hown2.frozenAt (cl.length * 4 + 1)
      have f2 := hown2.frozenAt (cl.length * 4 + 2)
      have f3 := hown2.frozenAt (cl.length * 4 + 3)
      simp only [Nat.add_zero] at z0 f0
      have nB : (Value.slice VA cl.length Vc).ownBlock ≠ some Bn := fun e => by
        obtain ⟨_, _, cur, hc⟩ := h5.ownNe e
        have h6 := hbn5
        unfold Blk at h6
        rw [hc] at h6; cases h6
      have hgn : Bn ≠ g := by
        rintro rfl
        rcases hg with hg | hg
        · exact nB hg
        · have := hbn5.lt; omega
      have hbn7 : Blk w2 Bn 65 #[.pointer (some ⟨Bs, 0, none⟩)] := (hgrow.block Bn (by have := hbn5.lt; omega) (fun e => nB e.symm)).trans hbn5
      have hko7 : KeepsOthers W w2 := hko5.trans (KeepsOthers.of_grownBy hgrow fun j o hj ho => own_cells h5.own j o hj ho)
      have hbv : Bn ≠ w.heap.size + 1 := by
        rintro rfl
        have h6 := h5.b1
        unfold Blk at h6 hbn5
        rw [h6] at hbn5; cases hbn5
      have HA := Lib.hid (h5.app hgrow hown2 (by simpa using hg) ⟨k, k, -1, ⟨A', sub.length, c'⟩⟩ (.mk k k (-1) sub) ⟨rfl, rfl, rfl, rfl, hc1, hc2', hr5⟩)
      clear hown2 hgrow h5 hc2 nB hbn5 hg hr5 hG0
      simp only [Act.put, List.setIfInBounds_toArray, List.set_cons_zero, List.set_cons_succ]
      refine wpAnyS_takeT (i := 9) (v := ?_) rfl (by kernel_rfl) (by kernel_rfl) (by kernel_rfl) (by kernel_rfl) (fun c a w => HP.out _ _ c a w) (Or.inl ⟨by rfl, ?_⟩) hS7 ?_
      rotate_left
      · intro w hSw
        (try dsimp only at hSw)
        go_simp
        first | done | with_reducible rfl
      simp only [Act.put, List.setIfInBounds_toArray, List.set_cons_zero, List.set_cons_succ]
      obtain ⟨hS7, hS0⟩ := hS7
      refine wpAnyS_ready (rs := [10, 11]) (by kernel_rfl) (by simp) ?_
      refine AllReadyS.cons rfl (fun K hK => ?_) (AllReadyS.cons rfl (fun K hK => ?_) AllReadyS.nil)
      · go_simp
        have hS8 : ((((w2.setCell ⟨g, cl.length * 4, none⟩ (.int .i64 k)).setCell ⟨g, cl.length * 4 + 1, none⟩ (.int .i64 k)).setCell ⟨g, cl.length * 4 + 2, none⟩ (.int .i64 (-1))).setCell ⟨g, cl.length * 4 + 3, none⟩ (.slice A' sub.length c')).cell? ⟨w.heap.size + 1, 0, none⟩ = some (.slice VA cl.length Vc) ∧ ((((w2.setCell ⟨g, cl.length * 4, none⟩ (.int .i64 k)).setCell ⟨g, cl.length * 4 + 1, none⟩ (.int .i64 k)).setCell ⟨g, cl.length * 4 + 2, none⟩ (.int .i64 (-1))).setCell ⟨g, cl.length * 4 + 3, none⟩ (.slice A' sub.length c')).cell? ⟨w.heap.size, 0, none⟩ = some (.pointer (some ⟨Bs, 0, none⟩)) := by
          rw [World.cell?_setCell_far _ _ _ _ hgB, World.cell?_setCell_far _ _ _ _ hgB, World.cell?_setCell_far _ _ _ _ hgB, World.cell?_setCell_far _ _ _ _ hgB, World.cell?_setCell_far _ _ _ _ hg0, World.cell?_setCell_far _ _ _ _ hg0, World.cell?_setCell_far _ _ _ _ hg0, World.cell?_setCell_far _ _ _ _ hg0]
          exact ⟨hS7, hS0⟩
        refine hK.out _ _ (fun _ => hS8) ?_
        clear hK
        refine wpAnyS_ready (rs := [11]) (by kernel_rfl) (by simp) ?_
        refine AllReadyS.cons rfl (fun K hK => ?_) AllReadyS.nil
        go_simp
        refine hK.out _ _ (fun h => absurd h (by decide)) ?_
        refine wpAnyS_done (by kernel_rfl) ?_ _
        refine HN.out _ _ _ _ _ _ _ _ _ _ _ _ _ _ _ _ _ hR ((hko7.trans (st4_keeps _ _ _ ⟨k, k, -1, ⟨A', sub.length, c'⟩⟩)).trans (KeepsOthers.setCell _ _ _)) ?_ HA.out.1
        exact (Gr.setCell (X := fun b => b = w.heap.size + 1) _ _ _ rfl).blk ((st4_gr (X := fun b => b = g) _ _ _ ⟨k, k, -1, ⟨A', sub.length, c'⟩⟩ rfl).blk hbn7 hgn) hbv
      · go_simp
        refine hK.out _ _ (fun h => absurd h (by decide)) ?_
        clear hK
        have fr : ∀ i, (w2.setCell ⟨w.heap.size + 1, 0, none⟩ (.slice (some ⟨g, 0, none⟩) (cl.length + 1) cap)).frozen? ⟨g, i, none⟩ = w2.frozen? ⟨g, i, none⟩ := fun i => World.frozen?_setCell _ _ _ _
        have ce : ∀ i, (w2.setCell ⟨w.heap.size + 1, 0, none⟩ (.slice (some ⟨g, 0, none⟩) (cl.length + 1) cap)).cell? ⟨g, i, none⟩ = w2.cell? ⟨g, i, none⟩ := fun i => World.cell?_setCell_far _ _ _ _ (fun e => hgB e.symm)
        rw [← ce] at z0 z1 z2 z3
        rw [← fr] at f0 f1 f2 f3
        refine wpAnyS_ready (rs := [10]) (by kernel_rfl) (by simp) ?_
        refine AllReadyS.cons rfl (fun K hK => ?_) AllReadyS.nil
        go_simp
        refine hK.out _ _ (fun h => absurd h (by decide)) ?_
        refine wpAnyS_done (by kernel_rfl) ?_ _
        refine HN.out _ _ _ _ _ _ _ _ _ _ _ _ _ _ _ _ _ hR ((hko7.trans (KeepsOthers.setCell _ _ _)).trans (st4_keeps _ _ _ ⟨k, k, -1, ⟨A', sub.length, c'⟩⟩)) ?_ HA.out.2
        exact (st4_gr (X := fun b => b = g) _ _ _ ⟨k, k, -1, ⟨A', sub.length, c'⟩⟩ rfl).blk ((Gr.setCell (X := fun b => b = w.heap.size + 1) _ _ _ rfl).blk hbn7 hbv) hgn
  · go_simp
    have hb6 : Below W4.heap.size W4 (W4.alloc (.cells #[.int .i64 0, .int .i64 0, .int .i64 0, .slice none 0 0] 35)) := (Below.refl _ W4).alloc (Nat.le_refl _) _
    have hG0 : Blk (W4.alloc (.cells #[.int .i64 0, .int .i64 0, .int .i64 0, .slice none 0 0] 35)) W4.heap.size 35 _ := Blk.new W4 35 #[.int .i64 0, .int .i64 0, .int .i64 0, .slice none 0 0]
    have hgB0 : W4.heap.size ≠ Bs := by have := h4.size; have := h4.lt; omega
    replace h4 := h4.below hb6
    replace hbn4 := hbn4.below hb6 hbn4.lt
    replace hko4 := hko4.trans (keeps_below hb6)
    have hS6' : (W4.alloc (.cells #[.int .i64 0, .int .i64 0, .int .i64 0, .slice none 0 0] 35)).cell? ⟨w.heap.size + 1, 0, none⟩ = some (.slice VA cl.length Vc) ∧ (W4.alloc (.cells #[.int .i64 0, .int .i64 0, .int .i64 0, .slice none 0 0] 35)).cell? ⟨w.heap.size, 0, none⟩ = some (.pointer (some ⟨Bs, 0, none⟩)) := ⟨h4.b1.cell 0, h4.b0.cell 0⟩
    refine hK.out _ _ (fun _ => hS6') ?_
    clear hK hHeld hb6
    generalize hG : W4.heap.size = G0 at *
    clear hG
    generalize W4.alloc (.cells #[.int .i64 0, .int .i64 0, .int .i64 0, .slice none 0 0] 35) = W6 at *
    try simp only [Act.put, List.setIfInBounds_toArray, List.set_cons_zero, List.set_cons_succ]
    refine wpAnyS_ready (rs := [4]) (by kernel_rfl) (by simp) ?_
    refine AllReadyS.cons rfl (fun K hK => ?_) AllReadyS.nil
    go_simp
    refine (ih W6 Ao os co t h4.sb h4.fo hn ht).mono ?_
    rintro e W5 ⟨hgr, hc, hst⟩
    cases hR : tryR ps r os t with
    | stop a er =>
      obtain ⟨A', c', hcp, rfl, hri⟩ := hst a er hR
      exact HE.out _ a er A' c' _ rfl hR (hko4.trans (h4.keeps hgr)) (h4.stopped hgr) (hri.mono (by have := h4.size; omega)) hcp
    | claims sub t' =>
      obtain ⟨A', c', rfl, hc1, hc2', hrd, Ao5, co5, hsb5, hfo5⟩ := hc sub t' hR
      obtain ⟨h5, hr5, hko45, hbk⟩ := h4.called hgr hsb5 hfo5 hrd
      have hbn5 := hbk Bn _ _ hbB hbn4
      have hko5 := hko4.trans hko45
      have hS6 : W5.cell? ⟨w.heap.size + 1, 0, none⟩ = some (.slice VA cl.length Vc) ∧ W5.cell? ⟨w.heap.size, 0, none⟩ = some (.pointer (some ⟨Bs, 0, none⟩)) := ⟨h5.b1.cell 0, h5.b0.cell 0⟩
      refine hK.out _ _ (fun _ => hS6) ?_
      clear hK hc hst hko45 hrd hsb5 hfo5 hgr ih HE hko4
      replace hG0 := hbk G0 _ _ hgB0 hG0
      clear hbk hbn4 h4
      try simp only [Act.put, List.setIfInBounds_toArray, List.set_cons_zero, List.set_cons_succ]
      refine wpAnyS_takeT (i := 5) (v := ?_) rfl (by kernel_rfl) (by kernel_rfl) (by kernel_rfl) (by kernel_rfl) (fun c a w => HP.out _ _ c a w) (Or.inl ⟨by rfl, ?_⟩) hS6 ?_
      rotate_left
      · intro w hSw
        (try dsimp only at hSw)
        go_simp
        first | done | with_reducible rfl
      simp only [Act.put, List.setIfInBounds_toArray, List.set_cons_zero, List.set_cons_succ]
      refine wpAnyS_ready (rs := [8]) (by kernel_rfl) (by simp) ?_
      refine AllReadyS.cons rfl (fun K hK => ?_) AllReadyS.nil
      have hz5 := h5.size
      refine step_append_lies _ (by rfl) (.tmp 59) (.tmp 66) 29 (by rfl) (w.heap.size + 3) 35 i0 _ 4 48 Try.underlying29 hi0 hz0 hz1 hz2 (by rfl) (by decide) (.slice VA cl.length Vc) cl.length _ (by rfl) h5.own ⟨G0, 0, none⟩ 1 1 [.int .i64 0, .int .i64 0, .int .i64 0, .slice none 0 0] (by rfl) (by rfl) (World.news_of_block (cs := #[.int .i64 0, .int .i64 0, .int .i64 0, .slice none 0 0]) (t := 35) (fr := (0, 0)) hG0) (by simp [Value.oneCell']) (by omega) (by unfold maxLen; omega) (by omega) (by omega) _ rfl ?_
      intro g cap w2 hown2 hgrow hg hgl
      have hgB : g ≠ w.heap.size + 1 := fun e => by
        rcases hg with hg | hg
        · have := (h5.ownNe hg).1; omega
        · omega
      have hg0 : g ≠ w.heap.size := fun e => by
        rcases hg with hg | hg
        · have := (h5.ownNe hg).1; omega
        · omega
      have hS7 : w2.cell? ⟨w.heap.size + 1, 0, none⟩ = some (.slice VA cl.length Vc) ∧ w2.cell? ⟨w.heap.size, 0, none⟩ = some (.pointer (some ⟨Bs, 0, none⟩)) := ⟨(World.cell?_of_block (hgrow.block (w.heap.size + 1) (by omega) (fun e => by have := (h5.ownNe e.symm).1; omega))).trans (h5.b1.cell 0), (World.cell?_of_block (hgrow.block w.heap.size (by omega) (fun e => by have := (h5.ownNe e.symm).1; omega))).trans (h5.b0.cell 0)⟩
      have hb7 : Blk w2 (w.heap.size + 1) 29 #[.slice VA cl.length Vc] := (hgrow.block (w.heap.size + 1) (by omega) (fun e => by have := (h5.ownNe e.symm).1; omega)).trans h5.b1
      have fB := hb7.frozen 0
      refine hK.out _ _ (fun _ => hS7) ?_
      clear hK
      have hi0 : (0 : Int) ≤ (cl.length : Int) := by omega
      have hi1 : (cl.length : Int) < (cl.length : Int) + 1 := by omega
      have hLl : (L.flatMap CV.cells).length = cl.length * 4 := by rw [CV.len, h5.cvs.1]
      have hc2 : ∀ j v, ([.int .i64 0, .int .i64 0, .int .i64 0, .slice none 0 0] : List Value)[j]? = some v → w2.cell? ⟨g, cl.length * 4 + j, none⟩ = some v := fun j v hv => by
        have := hown2.cells (g := g) rfl (cl.length * 4 + j) v (by rw [List.getElem?_append_right (by omega), hLl, show cl.length * 4 + j - cl.length * 4 = j by omega]; exact hv)
        rw [add_none] at this
        simpa using this
      have z0 := hc2 0 _ rfl
      have z1 := hc2 1 _ rfl
      have z2 := hc2 2 _ rfl
      have z3 := hc2 3 _ rfl
      have f0 := hown2.frozenAt (cl.length * 4 + 0)
      have f1 := hown2.frozenAt (cl.length * 4 + 1)
      have f2 := hown2.frozenAt (cl.length * 4 + 2)
      have f3 := hown2.frozenAt (cl.length * 4 + 3)
      simp only [Nat.add_zero] at z0 f0
      have nB : (Value.slice VA cl.length Vc).ownBlock ≠ some Bn := fun e => by
        obtain ⟨_, _, cur, hc⟩ := h5.ownNe e
        have h6 := hbn5
        unfold Blk at h6
        rw [hc] at h6; cases h6
      have hgn : Bn ≠ g := by
        rintro rfl
        rcases hg with hg | hg
        · exact nB hg
        · have := hbn5.lt; omega
      have hbn7 : Blk w2 Bn 65 #[.pointer (some ⟨Bs, 0, none⟩)] := (hgrow.block Bn (by have := hbn5.lt; omega) (fun e => nB e.symm)).trans hbn5
      have hko7 : KeepsOthers W w2 := hko5.trans (KeepsOthers.of_grownBy hgrow fun j o hj ho => own_cells h5.own j o hj ho)
      have hbv : Bn ≠ w.heap.size + 1 := by
        rintro rfl
        have h6 := h5.b1
        unfold Blk at h6 hbn5
        rw [h6] at hbn5; cases hbn5
      have HA := Lib.hid (h5.app hgrow hown2 (by simpa using hg) ⟨k, k, -1, ⟨A', sub.length, c'⟩⟩ (.mk k k (-1) sub) ⟨rfl, rfl, rfl, rfl, hc1, hc2', hr5⟩)
      clear hown2 hgrow h5 hc2 nB hbn5 hg hr5 hG0
      simp only [Act.put, List.setIfInBounds_toArray, List.set_cons_zero, List.set_cons_succ]
      refine wpAnyS_takeT (i := 9) (v := ?_) rfl (by kernel_rfl) (by kernel_rfl) (by kernel_rfl) (by kernel_rfl) (fun c a w => HP.out _ _ c a w) (Or.inl ⟨by rfl, ?_⟩) hS7 ?_
      rotate_left
      · intro w hSw
        (try dsimp only at hSw)
        go_simp
        first | done | with_reducible rfl
      simp only [Act.put, List.setIfInBounds_toArray, List.set_cons_zero, List.set_cons_succ]
      obtain ⟨hS7, hS0⟩ := hS7
      refine wpAnyS_ready (rs := [10, 11]) (by kernel_rfl) (by simp) ?_
      refine AllReadyS.cons rfl (fun K hK => ?_) (AllReadyS.cons rfl (fun K hK => ?_) AllReadyS.nil)
      · go_simp
        have hS8 : ((((w2.setCell ⟨g, cl.length * 4, none⟩ (.int .i64 k)).setCell ⟨g, cl.length * 4 + 1, none⟩ (.int .i64 k)).setCell ⟨g, cl.length * 4 + 2, none⟩ (.int .i64 (-1))).setCell ⟨g, cl.length * 4 + 3, none⟩ (.slice A' sub.length c')).cell? ⟨w.heap.size + 1, 0, none⟩ = some (.slice VA cl.length Vc) ∧ ((((w2.setCell ⟨g, cl.length * 4, none⟩ (.int .i64 k)).setCell ⟨g, cl.length * 4 + 1, none⟩ (.int .i64 k)).setCell ⟨g, cl.length * 4 + 2, none⟩ (.int .i64 (-1))).setCell ⟨g, cl.length * 4 + 3, none⟩ (.slice A' sub.length c')).cell? ⟨w.heap.size, 0, none⟩ = some (.pointer (some ⟨Bs, 0, none⟩)) := by
          rw [World.cell?_setCell_far _ _ _ _ hgB, World.cell?_setCell_far _ _ _ _ hgB, World.cell?_setCell_far _ _ _ _ hgB, World.cell?_setCell_far _ _ _ _ hgB, World.cell?_setCell_far _ _ _ _ hg0, World.cell?_setCell_far _ _ _ _ hg0, World.cell?_setCell_far _ _ _ _ hg0, World.cell?_setCell_far _ _ _ _ hg0]
          exact ⟨hS7, hS0⟩
        refine hK.out _ _ (fun _ => hS8) ?_
        clear hK
        refine wpAnyS_ready (rs := [11]) (by kernel_rfl) (by simp) ?_
        refine AllReadyS.cons rfl (fun K hK => ?_) AllReadyS.nil
        go_simp
        refine hK.out _ _ (fun h => absurd h (by decide)) ?_
        refine wpAnyS_done (by kernel_rfl) ?_ _
        refine HN.out _ _ _ _ _ _ _ _ _ _ _ _ _ _ _ _ _ hR ((hko7.trans (st4_keeps _ _ _ ⟨k, k, -1, ⟨A', sub.length, c'⟩⟩)).trans (KeepsOthers.setCell _ _ _)) ?_ HA.out.1
        exact (Gr.setCell (X := fun b => b = w.heap.size + 1) _ _ _ rfl).blk ((st4_gr (X := fun b => b = g) _ _ _ ⟨k, k, -1, ⟨A', sub.length, c'⟩⟩ rfl).blk hbn7 hgn) hbv
      · go_simp
        refine hK.out _ _ (fun h => absurd h (by decide)) ?_
        clear hK
        have fr : ∀ i, (w2.setCell ⟨w.heap.size + 1, 0, none⟩ (.slice (some ⟨g, 0, none⟩) (cl.length + 1) cap)).frozen? ⟨g, i, none⟩ = w2.frozen? ⟨g, i, none⟩ := fun i => World.frozen?_setCell _ _ _ _
        have ce : ∀ i, (w2.setCell ⟨w.heap.size + 1, 0, none⟩ (.slice (some ⟨g, 0, none⟩) (cl.length + 1) cap)).cell? ⟨g, i, none⟩ = w2.cell? ⟨g, i, none⟩ := fun i => World.cell?_setCell_far _ _ _ _ (fun e => hgB e.symm)
        rw [← ce] at z0 z1 z2 z3
        rw [← fr] at f0 f1 f2 f3
        refine wpAnyS_ready (rs := [10]) (by kernel_rfl) (by simp) ?_
        refine AllReadyS.cons rfl (fun K hK => ?_) AllReadyS.nil
        go_simp
        refine hK.out _ _ (fun h => absurd h (by decide)) ?_
        refine wpAnyS_done (by kernel_rfl) ?_ _
        refine HN.out _ _ _ _ _ _ _ _ _ _ _ _ _ _ _ _ _ hR ((hko7.trans (KeepsOthers.setCell _ _ _)).trans (st4_keeps _ _ _ ⟨k, k, -1, ⟨A', sub.length, c'⟩⟩)) ?_ HA.out.2
        exact (st4_gr (X := fun b => b = g) _ _ _ ⟨k, k, -1, ⟨A', sub.length, c'⟩⟩ rfl).blk ((Gr.setCell (X := fun b => b = w.heap.size + 1) _ _ _ rfl).blk hbn7 hbv) hgn
end
end Go.Proofs.Ytlmbffnmjfbglab
/- The walk of the search. -/
namespace Go.Proofs.Ytlmbffnmjfbglab
open Go.ChangeShapes Go.WideShapes Go.ChangeAt Go.RowKit

attribute [local go_sem] Oper.semAt_some

theorem nameIn {F : Fence} {n : Nat} {P : Program} {c : Code} {Q : Exit → Act → World → Prop} {a : Act} {w : World} (h : ∀ W0, W0 = w → c.wpIn F n P Q a W0) : c.wpIn F n P Q a w := h w rfl
theorem nameOf {f n : Nat} {P : Program} {c : Code} {Q : Exit → Act → World → Prop} {a : Act} {w : World} (h : ∀ W0, W0 = w → WpOf f n P c Q a W0) : WpOf f n P c Q a w := h w rfl
theorem wrap64_small (n : Nat) (h : n ≤ 65536) : wrap64 (n : Int) = (n : Int) := by unfold wrap64; omega
/-- the parts' times. -/
def PT (ps : List Part) : Prop := ps.length ≤ 6 ∧ ∀ p ∈ ps, 1 ≤ p.length ∧ p.length ≤ p.period ∧ p.period ≤ 2000
theorem SB.fa {W : World} {Bs : Nat} {name : ByteArray} {mem F : Int} {A : Option Addr} {ps : List Part} {c : Nat} {Ao : Option Addr} {os : List Int} {co : Nat} {t : Int} (h : SB W Bs name mem F A ps c Ao os co t) : ∀ b o, A = some ⟨b, o, none⟩ → 0 < ps.length → b < W.heap.size ∧ b ≠ Bs := fun b o e hn => by
  obtain ⟨b', o', e', hb, hc⟩ := h.pt hn
  rw [e] at e'
  injection e' with e'
  injection e' with e1 e2
  subst e1 e2
  refine ⟨hb, ?_⟩
  rintro rfl
  have h9 := hc 0 hn 9 _ rfl
  rw [h.blk.cell, Array.getElem?_eq_none (by simp)] at h9
  cases h9

set_option maxHeartbeats 1000000 in
theorem possible_c (w : World) (Bs : Nat) : Calls Try.prog 62 #[.pointer (some ⟨Bs, 0, none⟩)] w fun e w' => e = .returned (.func (.func 86) #[] #[.pointer (some ⟨w.heap.size, 0, none⟩)]) ∧ w' = w.alloc (.cells #[.pointer (some ⟨Bs, 0, none⟩)] 65) := by
  go_enter Try.func62, Try.ntmps62
  go_wp2
  go_ret
  exact ⟨rfl, rfl⟩

set_option maxRecDepth 100000 in
set_option maxHeartbeats 4000000 in
theorem try_succ (Bs : Nat) (name : ByteArray) (mem F : Int) (A : Option Addr) (ps : List Part) (c : Nat) (hps : PT ps) (r : Nat)
    (ih : ∀ (W : World) (Ao : Option Addr) (os : List Int) (co t : Nat), SB W Bs name mem F A ps c Ao os co t → OT W Ao os → os.length + r = ps.length → t ≤ 65536 → Calls Try.prog 37 #[.pointer (some ⟨Bs, 0, none⟩)] W (TryPost W Bs name mem F A ps c os t r))
    (w : World) (Ao : Option Addr) (os : List Int) (co t : Nat) (h : SB w Bs name mem F A ps c Ao os co t) (hO : OT w Ao os) (hn : os.length + (r + 1) = ps.length) (ht : t ≤ 65536) :
    Calls Try.prog 37 #[.pointer (some ⟨Bs, 0, none⟩)] w (TryPost w Bs name mem F A ps c os t (r + 1)) := by
  obtain ⟨_, _, _, c3, c4, _⟩ := h.cells
  have hz := h.blk.lt
  have hlt : os.length < ps.length := by omega
  have hdec : ((os.length : Int) == (ps.length : Int)) = false := by simp; omega
  have hB : Below w.heap.size w (((w.alloc (.cells #[.pointer (some ⟨Bs, 0, none⟩)] 65)).alloc (.cells #[.slice none 0 0] 29)).alloc (.cells #[.int .i64 os.length] 3)) := ((((Below.refl _ w).alloc (Nat.le_refl _) _).alloc (by simp) _).alloc (by simp; omega) _)
  have hb0 := ((Blk.new w 65 #[.pointer (some ⟨Bs, 0, none⟩)]).alloc (.cells #[.slice none 0 0] 29)).alloc (.cells #[.int .i64 os.length] 3)
  have hb1 := (Blk.new (w.alloc (.cells #[.pointer (some ⟨Bs, 0, none⟩)] 65)) 29 #[.slice none 0 0]).alloc (.cells #[.int .i64 os.length] 3)
  have hb2 := Blk.new ((w.alloc (.cells #[.pointer (some ⟨Bs, 0, none⟩)] 65)).alloc (.cells #[.slice none 0 0] 29)) 3 #[.int .i64 os.length]
  simp only [World.size_alloc] at hb1 hb2
  have hsz : w.heap.size + 3 ≤ (((w.alloc (.cells #[.pointer (some ⟨Bs, 0, none⟩)] 65)).alloc (.cells #[.slice none 0 0] 29)).alloc (.cells #[.int .i64 os.length] 3)).heap.size := by simp
  have Hn := Lib.hid hn
  clear hn
  refine (callsIn_wide (n := 5)).1 (callsIn_of_wpOf Try.func37 rfl ?_)
  simp only [Try.ntmps37, List.size_toArray, List.length_cons, List.length_nil, Nat.reduceAdd, Nat.reduceSub, Array.replicate_succ, Array.replicate_zero, List.push_toArray, List.append_toArray, List.nil_append, List.cons_append]
  refine WpOf.seq (WpOf.of_in ?_)
  gi_wp2_with fail
  refine WpOf.seq (WpOf.of_in ?_)
  gi_wp2_with fail
  refine WpOf.seq (WpOf.of_in ?_)
  refine nameIn fun W1 hW1 => ?_
  rw [← hW1] at hB hb0 hb1 hb2 hsz
  clear hW1
  have hS1 := h.next hB
  have hR : RI0 w Bs name mem F A ps c os.length W1 os t [] (.slice none 0 0) [] Ao co :=
    ⟨below_grown hB, hsz, hb0, hb1, hb2, hS1, hz, h.fa, hO.gr (X := fun _ => False) (.of_below hB) (fun _ _ _ _ x => x), World.ownsRow_nil _ _ _ _, CVs.nil⟩
  clear c3 c4
  obtain ⟨_, _, _, c3, c4, _⟩ := hS1.cells
  have q0 : W1.cell? ⟨w.heap.size, 0, none⟩ = some (.pointer (some ⟨Bs, 0, none⟩)) := hb0.cell 0
  have q2 : W1.cell? ⟨w.heap.size + 1 + 1, 0, none⟩ = some (.int .i64 os.length) := hb2.cell 0
  have Hh := Lib.hid h
  have HO := Lib.hid hO
  clear h hO hS1 hb0 hb1 hb2 hsz hB
  gi_wp2_with fail
  refine wpIn_wide.2 ?_
  go_quiet (fail)
  gi_wp2_with fail
  have hR2 := hR.below (below_drewN (Below.refl _ _) nq)
  clear hR c3 c4
  have q0' : (W1.drewN nq).cell? ⟨w.heap.size, 0, none⟩ = some (.pointer (some ⟨Bs, 0, none⟩)) := hR2.b0.cell 0
  clear q0 q2
  revert hR2 q0'
  generalize W1.drewN nq = W2
  intro hR2 q0
  have hpc := possible_c W2 Bs
  refine WpOf.seq (WpOf.seq (WpOf.of_in ?_))
  gi_wp2_with fail
  refine wide_call hpc ?_
  rintro e W3 ⟨rfl, hW3⟩
  have hbn : Blk W3 W2.heap.size 65 #[.pointer (some ⟨Bs, 0, none⟩)] := hW3 ▸ Blk.new W2 65 _
  have hR3 := hR2.below (W' := W3) (hW3 ▸ (Below.refl _ W2).alloc (Nat.le_refl _) _)
  have hBn := hR2.size
  have hBW : w.heap.size + 3 ≤ W3.heap.size := hR3.size
  clear hpc q0 hR2
  generalize W2.heap.size = Bn at *
  clear hW3
  gi_wp2_with fail
  obtain ⟨p, hp⟩ : ∃ p, p = ps[os.length] := ⟨_, rfl⟩
  obtain ⟨hp1, hp2, hp3⟩ := hps.2 p (hp ▸ List.getElem_mem _)
  have hN : nOff ps os.length = (p.period - p.length + 1).toNat := by simp [nOff, hlt, hp]
  have htry : tryR ps (r + 1) os t = prefR ps (tryR ps r) os t (p.period - p.length + 1).toNat := by rw [← hN]; rfl
  have hsq := possible1_seq 4 Bn Bs name mem F A ps c os hlt hps.1 p hp hp1 hp2 hp3
  have hN2 : (p.period - p.length + 1).toNat ≤ 2000 := by omega
  generalize (p.period - p.length + 1).toNat = N at hsq htry hN2
  refine WpOf.block (R := fun a w => _) (S := fun ch a w => _) ?_ (fun _ _ h => h) (fun _ _ _ h => h)
  refine wpOf_rangeP (gf := 86) (lb := #[.pointer (some ⟨Bn, 0, none⟩)]) rfl (enters_of Try.func86 (by kernel_rfl) rfl)
    (fun k => #[.int .i64 k, .int .i64 (conflP ps os k)]) (fun _ => rfl) N _ _ _ _ hsq
    (fun k W => k ≤ N ∧ Blk W Bn 65 #[.pointer (some ⟨Bs, 0, none⟩)] ∧ IR w Bs name mem F A ps c os t (tryR ps r) 0 k W)
    (fun k W => k < N ∧ Blk W Bn 65 #[.pointer (some ⟨Bs, 0, none⟩)] ∧ IR w Bs name mem F A ps c os t (tryR ps r) 1 k W)
    (fun W => w.grownBy W (some Bs) ∧ tryR ps (r + 1) os t = .stop [] 5)
    (fun W => IR w Bs name mem F A ps c os t (tryR ps r) 0 N W)
    (fun ch W => ∃ a er A' c', tryR ps (r + 1) os t = .stop a er ∧ ch = [{ v := .iface 63 (.agg #[.slice A' a.length c', .int .i64 er]), recovered := false }] ∧ w.grownBy W (some Bs) ∧ RdF w.heap.size W A' a ∧ a.length ≤ c')
    ?hI ?hIm ?hIf ?hOk ?hA ?hO ?hF ?h0 ?act ?hfn ?assign ?body ?hend ?hpan
  case hI => exact OwnFrom.and (ownFrom_pure _ _) (OwnFrom.and (ownFrom_blk _ _ _ _) (IR.own hBW))
  case hIm => exact OwnFrom.and (ownFrom_pure _ _) (OwnFrom.and (ownFrom_blk _ _ _ _) (IR.own hBW))
  case hIf => exact fun k X Y row h hg hr => IR.own hBW N X Y row h hg hr
  case hOk =>
    rintro k W ⟨hk, hb, cl, t1, V, L, Ao1, co1, _, h2, h3⟩
    exact ⟨⟨hb, (t1 : Int), by omega, by omega, Ao1, co1, h3.sb⟩, hk⟩
  case hA =>
    rintro k Wa Wb ⟨hk, hb, cl, t1, V, L, Ao1, co1, h1, h2, h3⟩ hkN ⟨t', hx, hle, hbel⟩
    obtain rfl := h3.tEq hx
    obtain ⟨a1, a2, a3⟩ := h3.tries hbel
    simp only [Bool.false_eq_true, if_false] at hle
    exact ⟨a1, hkN, a3 _ _ _ (by omega) hb, cl, t1, V, L, Ao1, co1, h1, by omega, a2⟩
  case hO =>
    rintro k Wa Wb ⟨hk, hb, cl, t1, V, L, Ao1, co1, h1, h2, h3⟩ hkN ⟨t', hx, hle, hbel⟩
    obtain rfl := h3.tEq hx
    obtain ⟨a1, a2, a3⟩ := h3.tries hbel
    simp only [if_true] at hle
    refine ⟨a1, a2.grown, ?_⟩
    rw [htry]
    refine prefR_stop ps _ os t N (k + 1) hkN ?_
    simp only [prefR, h1, oneR]
    rw [if_pos (by omega)]
  case hF =>
    rintro Wa Wb ⟨hk, hb, cl, t1, V, L, Ao1, co1, h1, h2, h3⟩ hbel
    exact ⟨cl, t1, V, L, Ao1, co1, h1, h2, h3.below hbel⟩
  case h0 => exact ⟨Nat.zero_le _, hbn, [], t, _, [], Ao, co, rfl, ht, hR3⟩
  case hfn => exact ⟨_, Try.func37⟩
  case assign =>
    intro l k W K hK
    gi_wp2
    exact hK
  case hend =>
    rintro W ⟨cl, t1, V, L, Ao1, co1, h1, h2, h3⟩ hD
    obtain ⟨VA, Vc, rfl, _, _, _⟩ := h3.post
    have q2 : W.cell? ⟨w.heap.size + 1, 0, none⟩ = some (.slice VA cl.length Vc) := h3.b1.cell 0
    simp only [Exit.then]
    refine WpOf.of_in ?_
    have h4 := h3.self (W' := W.setCell ⟨w.heap.size + 1, 0, none⟩ (.slice VA cl.length Vc)) (Gr.setCell W _ _ rfl) (h3.b1.set_ 0 _)
    have hD4 : (W.setCell ⟨w.heap.size + 1, 0, none⟩ (.slice VA cl.length Vc)).heap[W3.heap.size]? = some (.deferred (some [])) := (Below.heap_setCell W _ _ _ (by simp; omega)).trans hD
    have H4 := Lib.hid h4
    have hfz := h3.b1.frozen 0
    clear h4 h3 hsq hD hR3
    gi_wp2_with fail
    refine leaves_marksM (m := .returning) (by simp) [_] _ (w.heap.size + 3) (by simp) (fun D hD => ?_) fun W' hS => ?_
    · obtain rfl : D = W3.heap.size := by simpa using hD
      exact ⟨hBW, hD4⟩
    have h5 := H4.out.turn (hS.gr (Nat.le_refl _)) fun b _ x => x
    obtain ⟨A', c', e5, a1, a2, a3⟩ := h5.post
    rw [e5] at h5
    have q5 := h5.b1.cell 0
    refine ⟨.slice A' cl.length c', ?_, TryPost.of_claims h5.grown (htry.trans h1) a1 a2 a3 ⟨Ao1, co1, h5.sb, h5.fo⟩⟩
    simp at q5
    simp [results, Try.results37, go_sem, q5]
  case hpan =>
    rintro ch W hI hD
    simp only [Exit.then]
    refine leaves_marksM (by simp) [_] W (w.heap.size + 3) (by simp) (fun D hD' => ?_) fun W' hS => ?_
    · obtain rfl : D = W3.heap.size := by simpa using hD'
      exact ⟨hBW, hD⟩
    have hgr : ∀ {W : World}, w.grownBy W (some Bs) → w.grownBy W (some Bs) := fun h => h
    rcases hI with ⟨a, er, A', c', e1, rfl, e3, e4, e5⟩ | ⟨rfl, e3, e1⟩
    · refine TryPost.of_stop ((hS.gr (Nat.le_refl _)).grown e3 fun k hk x => by omega) e1 ⟨fun hn => ?_, e4.2⟩ e5
      obtain ⟨b, o, rfl, hb, hc⟩ := e4.1 hn
      refine ⟨b, o, rfl, Nat.lt_of_lt_of_le hb hS.size, fun i hi => ?_⟩
      obtain ⟨ob, ho, hcl⟩ := cells_of_cell (hc i hi)
      exact (World.cell?_of_block ((hS.cells _ _ ho hcl).trans ho.symm)).trans (hc i hi)
    · exact TryPost.of_stop (a := []) (A' := none) (c' := 0) ((hS.gr (Nat.le_refl _)).grown e3 fun k hk x => by omega) e1 RdF.nil (Nat.zero_le _)
  case body =>
    rintro l k W ⟨hkN, hb, cl, t1, V, L, Ao1, co1, h1, h2, h3⟩
    clear hsq hR3 hbn
    have q1 : W.cell? ⟨w.heap.size + 1, 0, none⟩ = some V := h3.b1.cell 0
    obtain ⟨VA, Vc, rfl, hVc, _, _⟩ := h3.post
    have hk2000 : k ≤ 2000 := by omega
    have hcl := prefR_len ps (tryR ps r) os t k cl t1 h1
    have hwr := IntWalk.i64_in ((cl.length : Int) - 1) (by omega)
    have hBnB : Bn ≠ Bs := by have := h3.lt; have := h3.size; omega
    by_cases hcf : conflP ps os k < 0
    · have d1 : decide (conflP ps os k < 0) = true := decide_eq_true hcf
      have hpre : ∀ sub t', tryR ps r (os ++ [(k : Int)]) (t1 + 1) = .claims sub t' → prefR ps (tryR ps r) os t (k + 1) = .claims (cl ++ [.mk k k (-1) sub]) t' := fun sub t' hR => by
        simp only [prefR, h1, oneR]
        rw [if_neg (by omega), if_pos hcf, hR]
      have hpst : ∀ a er, tryR ps r (os ++ [(k : Int)]) (t1 + 1) = .stop a er → tryR ps (r + 1) os t = .stop a er := fun a er hR => by
        rw [htry]
        refine prefR_stop ps _ os t N (k + 1) hkN ?_
        simp only [prefR, h1, oneR]
        rw [if_neg (by omega), if_pos hcf, hR]
      have hle : ∀ sub t', tryR ps r (os ++ [(k : Int)]) (t1 + 1) = .claims sub t' → t' ≤ 65536 := fun sub t' hR => tryR_tries ps r _ _ _ _ h2 hR
      have HPre := Lib.hid hpre
      have HPst := Lib.hid hpst
      have HLe := Lib.hid hle
      clear hpre hpst hle
      gi_wp2_with fail
      refine reg10_c W Bn k h3 hb hBnB (by have := hps.1; omega) _ ?_ ?_ ?_
      · rintro ⟨_, _, h⟩; exact h
      · exact fun d _ _ _ _ h => by cases d <;> exact h
      clear h3 hb
      rintro W5 Ao5 co5 _ _ _ _ _ _ _ _ _ _ _ _ _ hko5 hb5 h5
      gi_wp2_with fail
      refine reg11_c r ih W5 VA Vc Bn k h5 hb5 hBnB (by omega) (by simp; have := Hn.out; omega) h2 _ ?_ ?_ ?_ ?_
      · rintro ⟨_, _, h⟩; exact h
      · exact fun d _ _ _ _ h => by cases d <;> exact h
      · clear h5 hb5
        rintro W6 V6 L6 Ao6 co6 sub t' _ _ _ _ _ _ _ _ _ _ hR hko6 hb6 h6
        have hpre := HPre.out sub t' hR
        have ht' := HLe.out sub t' hR
        clear HPre HPst HLe hR
        gi_wp2_with fail
        refine reg12_c W6 Bn k h6 hb6 hBnB _ ?_ ?_ ?_
        · rintro ⟨_, _, h⟩; exact h
        · exact fun d _ _ _ _ h => by cases d <;> exact h
        clear h6 hb6
        rintro a' W7 hko7 hb7 h7
        exact ⟨(hko5.trans hko6).trans hko7, by omega, hb7, _, _, _, _, _, _, hpre, by omega, h7⟩
      · rintro W6 a er A' c' a' hd hR hko6 hgr hri hcp
        exact ⟨hd, hko5.trans hko6, a, er, A', c', HPst.out a er hR, rfl, hgr, hri, hcp⟩
    · have d1 : decide (conflP ps os k < 0) = false := decide_eq_false hcf
      have hpre : prefR ps (tryR ps r) os t (k + 1) = .claims (extend cl k (conflP ps os k)) (t1 + 1) := by
        simp only [prefR, h1, oneR]
        rw [if_neg (by omega), if_neg (by omega)]
      rcases List.eq_nil_or_concat cl with hc0 | ⟨cl0, ⟨f, t0, wi, sub⟩, hc0⟩
      · have hne : ¬ ((cl.length : Int) - 1 ≥ 0) := by simp [hc0]
        have HE : Hid (extend cl k (conflP ps os k) = cl ++ [.mk k k (conflP ps os k) []]) := by subst hc0; rfl
        have HP := Lib.hid hpre
        clear hc0 hpre
        gi_wp2_with fail
        refine reg8_c W VA Vc Bn k _ h3 hb (by omega) _ ?_ ?_ ?_
        · rintro ⟨_, _, h⟩; exact h
        · exact fun d _ _ _ _ h => by cases d <;> exact h
        clear h3 hb
        rintro a' W7 V7 L7 hko7 hb7 h7
        exact ⟨hko7, by omega, hb7, _, _, _, _, _, _, HP.out.trans (by rw [HE.out]), by omega, h7⟩
      · rw [List.concat_eq_append] at hc0
        subst hc0
        clear q1 hwr
        obtain ⟨n0, hn0⟩ : ∃ n, cl0.length = n := ⟨_, rfl⟩
        simp only [List.length_append, List.length_cons, List.length_nil, Nat.zero_add, hn0] at hVc h3 hcl
        obtain ⟨g, cap, e, hgB, hgW⟩ := h3.own.form (by simp)
        injection e with e1 e0 e2
        subst e1 e2
        clear e0
        obtain ⟨L0, x, rfl⟩ : ∃ L0 x, L = L0 ++ [x] := by
          rcases List.eq_nil_or_concat L with rfl | ⟨L0, x, rfl⟩
          · have := h3.cvs.1; simp at this
          · exact ⟨L0, x, List.concat_eq_append⟩
        have hl0 : L0.length = n0 := by have := h3.cvs.1; simp at this; omega
        have hxw : x.w = wi := by
          have := (h3.cvs.2 n0 (by simp; omega) (by simp; omega)).2.2.1
          rw [List.getElem_append_right (by omega), List.getElem_append_right (by omega)] at this
          simpa [Claim.wth] using this
        have hcw : W.cell? ⟨g, n0 * 4 + 2, none⟩ = some (.int .i64 wi) := by
          have h0 := CV.get (L0 ++ [x]) n0 (by simp; omega)
          have := h3.own.cells (g := g) rfl (n0 * 4 + 2) _ h0.2.2.1
          rw [add_none, Nat.zero_add] at this
          rw [this]
          simp [← hl0, ← hxw]
        have hct : ∃ v, W.cell? ⟨g, n0 * 4 + 1, none⟩ = some v := by
          have h0 := CV.get (L0 ++ [x]) n0 (by simp; omega)
          have := h3.own.cells (g := g) rfl (n0 * 4 + 1) _ h0.2.1
          rw [add_none, Nat.zero_add] at this
          exact ⟨_, this⟩
        have hcz : W.frozen? ⟨g, n0 * 4 + 1, none⟩ = false := by
          have ho := h3.own
          simp only [List.length_append, List.length_cons, List.length_nil, Nat.zero_add, hn0] at ho
          exact ho.frozenAt _
        obtain ⟨v1, hct⟩ := hct
        have q1 : W.cell? ⟨w.heap.size + 1, 0, none⟩ = some (.slice (some ⟨g, 0, none⟩) (n0 + 1) Vc) := h3.b1.cell 0
        have hlt1 : ((n0 : Int) < (n0 : Int) + 1) := by omega
        have hi0 : (0 : Int) ≤ (n0 : Int) := by omega
        have hwr3 : wrap64 (n0 : Int) = (n0 : Int) := wrap64_small n0 (Nat.le_trans (Nat.le_of_succ_le hcl) (Nat.le_trans hk2000 (by decide)))
        have HP := Lib.hid hpre
        have hcl2 : (cl0 ++ [Claim.mk f t0 wi sub]).length ≤ 2000 := by
          rw [List.length_append, hn0]
          exact Nat.le_trans hcl hk2000
        have Hcl2 := Lib.hid hcl2
        clear hpre hl0 hxw hn0 hcl2
        have hfin : ∀ W' cl' V' L' Ao' co', KeepsOthers W W' → Blk W' Bn 65 #[.pointer (some ⟨Bs, 0, none⟩)] → RI0 w Bs name mem F A ps c os.length W' os (t1 + 1 : Nat) cl' V' L' Ao' co' → extend (cl0 ++ [.mk f t0 wi sub]) k (conflP ps os k) = cl' → ∀ a, postP (fun k W => k ≤ N ∧ Blk W Bn 65 #[.pointer (some ⟨Bs, 0, none⟩)] ∧ IR w Bs name mem F A ps c os t (tryR ps r) 0 k W) (fun ch W => ∃ a er A' c', tryR ps (r + 1) os t = .stop a er ∧ ch = [{ v := .iface 63 (.agg #[.slice A' a.length c', .int .i64 er]), recovered := false }] ∧ w.grownBy W (some Bs) ∧ RdF w.heap.size W A' a ∧ a.length ≤ c') k W .normal a W' := fun W' cl' V' L' Ao' co' hk hb' h' he a => ⟨hk, by omega, hb', _, _, _, _, _, _, HP.out.trans (by rw [he]), by omega, h'⟩
        have Hfin := Lib.hid hfin
        have H3 := Lib.hid h3
        have Hb := Lib.hid hb
        clear hfin ih htry h1 h3 hb h2 hp hp1 hp2 hp3 hN hN2 hkN HP hVc hcl hgB hgW hk2000 hps ht hz hdec hBW hBn
        by_cases hw : wi = conflP ps os k
        · have HE : Hid (extend (cl0 ++ [.mk f t0 wi sub]) k (conflP ps os k) = cl0 ++ [.mk f k wi sub]) := by unfold Hid; simp [extend, hw]
          have hwd : (wi == conflP ps os k) = true := by simp [hw]
          clear hw
          gi_wp2_with fail
          have h3 := H3.out
          have hlen : n0 = cl0.length := by
            obtain ⟨_, _, e, _⟩ := h3.post
            injection e with _ e _
            simpa using e
          subst hlen
          have hl0 : L0.length = cl0.length := by have := h3.cvs.1; simp at this; omega
          have hgn : Bn ≠ g := by
            rintro rfl
            obtain ⟨_, _, cur, hc⟩ := h3.ownNe (b := Bn) rfl
            have h6 := Hb.out
            unfold Blk at h6
            rw [hc] at h6; cases h6
          exact Hfin.out _ _ _ _ _ _ (KeepsOthers.setCell _ _ _) (Hb.out.far (p := ⟨g, cl0.length * 4 + 1, none⟩) hgn _) (h3.last hl0 k) HE.out ⟨#[], []⟩
        · have HE : Hid (extend (cl0 ++ [.mk f t0 wi sub]) k (conflP ps os k) = (cl0 ++ [.mk f t0 wi sub]) ++ [.mk k k (conflP ps os k) []]) := by unfold Hid; simp [extend, hw]
          have hwd : (wi == conflP ps os k) = false := by simp [hw]
          clear hw
          gi_wp2_with fail
          have h3 := H3.out
          have hlen : n0 + 1 = (cl0 ++ [Claim.mk f t0 wi sub]).length := by
            obtain ⟨_, _, e, _⟩ := h3.post
            injection e with _ e _
          rw [hlen] at h3
          refine reg8_c W _ Vc Bn k _ h3 Hb.out Hcl2.out _ ?_ ?_ ?_
          · rintro ⟨_, _, h⟩; exact h
          · exact fun d _ _ _ _ h => by cases d <;> exact h
          rintro a' W7 V7 L7 hko7 hb7 h7
          exact Hfin.out _ _ _ _ _ _ hko7 hb7 h7 HE.out ⟨#[], []⟩
/-- THE SEARCH: what it computes is tryR's. -/
theorem try_c (Bs : Nat) (name : ByteArray) (mem F : Int) (A : Option Addr) (ps : List Part) (c : Nat) (hps : PT ps) : ∀ (r : Nat) (W : World) (Ao : Option Addr) (os : List Int) (co t : Nat), SB W Bs name mem F A ps c Ao os co t → OT W Ao os → os.length + r = ps.length → t ≤ 65536 →
    Calls Try.prog 37 #[.pointer (some ⟨Bs, 0, none⟩)] W (TryPost W Bs name mem F A ps c os t r)
  | 0, _, _, _, _, _, h, _, hn, _ => try_zero h hn hps.1
  | r + 1, W, Ao, os, co, t, h, hO, hn, ht => try_succ Bs name mem F A ps c hps r (try_c Bs name mem F A ps c hps r) W Ao os co t h hO hn ht
end Go.Proofs.Ytlmbffnmjfbglab
