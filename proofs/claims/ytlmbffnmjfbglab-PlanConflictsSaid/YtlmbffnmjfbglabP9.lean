/- What the rounds of the search keep. -/
import Derived.Test.YtlmbffnmjfbglabP8
import Derived.Test.YtlmbffnmjfbglabwT1
namespace Go.Proofs.Ytlmbffnmjfbglab
open Go.ChangeShapes Go.WideShapes Go.ChangeAt Go.RowKit

/-- a world that has grown, and changed at the blocks of X alone. -/
structure Gr (X : Nat → Prop) (w w' : World) : Prop where
  os : w'.os = w.os
  tape : w'.tape = w.tape
  output : w'.output = w.output
  size : w.heap.size ≤ w'.heap.size
  block : ∀ k, k < w.heap.size → ¬ X k → w'.heap[k]? = w.heap[k]?
theorem Gr.refl (X : Nat → Prop) (w : World) : Gr X w w := ⟨rfl, rfl, rfl, Nat.le_refl _, fun _ _ _ => rfl⟩
theorem Gr.trans {X : Nat → Prop} {a b c : World} (h : Gr X a b) (k : Gr X b c) : Gr X a c :=
  ⟨k.os.trans h.os, k.tape.trans h.tape, k.output.trans h.output, Nat.le_trans h.size k.size, fun i hi hx => (k.block i (Nat.lt_of_lt_of_le hi h.size) hx).trans (h.block i hi hx)⟩
theorem Gr.mono {X Y : Nat → Prop} {a b : World} (h : Gr X a b) (hx : ∀ k, k < a.heap.size → X k → Y k) : Gr Y a b :=
  ⟨h.os, h.tape, h.output, h.size, fun i hi hy => h.block i hi fun x => hy (hx i hi x)⟩
theorem Gr.of_grown {X : Nat → Prop} {a b : World} {row : Option Nat} (h : a.grownBy b row) (hx : ∀ k, row = some k → X k) : Gr X a b :=
  ⟨h.os, h.tape, h.output, h.size, fun i hi hn => h.block i hi fun e => hn (hx i e.symm)⟩
theorem Gr.of_below {X : Nat → Prop} {a b : World} (h : Below a.heap.size a b) : Gr X a b := ⟨h.os, h.tape, h.output, h.size, fun i hi _ => h.block i hi⟩
theorem Gr.alloc (X : Nat → Prop) (w : World) (o : Obj) : Gr X w (w.alloc o) := .of_below ((Below.refl _ w).alloc (Nat.le_refl _) _)
theorem Gr.setCell {X : Nat → Prop} (w : World) (a : Addr) (v : Value) (h : X a.block) : Gr X w (w.setCell a v) :=
  ⟨rfl, rfl, rfl, by simp [World.setCell], fun k _ hx => Below.heap_setCell w a v k (fun e => hx (e ▸ h))⟩
theorem Gr.grown {X : Nat → Prop} {w a b : World} {r : Nat} (h : w.grownBy a (some r)) (k : Gr X a b) (hx : ∀ k, k < w.heap.size → X k → k = r) : w.grownBy b (some r) :=
  ⟨k.os.trans h.os, k.tape.trans h.tape, k.output.trans h.output, Nat.le_trans h.size k.size, fun i hi hn => (k.block i (Nat.lt_of_lt_of_le hi h.size) (fun x => hn (by rw [hx i hi x]))).trans (h.block i hi hn)⟩
theorem Gr.cell {X : Nat → Prop} {a b : World} (h : Gr X a b) {p : Addr} {v : Value} (hv : a.cell? p = some v) (hx : ¬ X p.block) : b.cell? p = some v :=
  (World.cell?_of_block (h.block p.block (World.block_lt_of_cell? a p hv) hx)).trans hv
theorem Gr.blk {X : Nat → Prop} {a b : World} (h : Gr X a b) {g : Nat} {t : TypeId} {cs : Array Value} (hb : Blk a g t cs) (hx : ¬ X g) : Blk b g t cs := (h.block g hb.lt hx).trans hb

/-- blocks of sub-claims: made in the call, other than the claims' own row. -/
def RQ (w W : World) (V : Value) (b : Nat) : Prop := w.heap.size + 3 ≤ b ∧ V.ownBlock ≠ some b ∧ ∃ o, W.heap[b]? = some o ∧ o.isCells = true
/-- what the rounds keep. -/
structure RI0 (w : World) (Bs : Nat) (name : ByteArray) (mem F : Int) (A : Option Addr) (ps : List Part) (c n : Nat) (W : World) (os : List Int) (t : Int) (cl : List Claim) (V : Value) (L : List CV) (Ao : Option Addr) (co : Nat) : Prop where
  grown : w.grownBy W (some Bs)
  size : w.heap.size + 3 ≤ W.heap.size
  b0 : Blk W w.heap.size 65 #[.pointer (some ⟨Bs, 0, none⟩)]
  b1 : Blk W (w.heap.size + 1) 29 #[V]
  b2 : Blk W (w.heap.size + 2) 3 #[.int .i64 n]
  sb : SB W Bs name mem F A ps c Ao os co t
  lt : Bs < w.heap.size
  fa : ∀ b o, A = some ⟨b, o, none⟩ → 0 < ps.length → b < w.heap.size ∧ b ≠ Bs
  fo : OT W Ao os
  own : W.ownsRow (w.heap.size + 3) 35 4 V cl.length (L.flatMap CV.cells)
  cvs : CVs W (RQ w W V) L cl
section
variable {w : World} {Bs : Nat} {name : ByteArray} {mem F : Int} {A : Option Addr} {ps : List Part} {c n : Nat} {W W' : World} {os os' : List Int} {t t' : Int} {cl : List Claim} {V V' : Value} {L : List CV} {Ao Ao' : Option Addr} {co co' : Nat}
theorem RI0.ownNe (h : RI0 w Bs name mem F A ps c n W os t cl V L Ao co) {b : Nat} (hb : V.ownBlock = some b) : w.heap.size + 3 ≤ b ∧ b < W.heap.size ∧ ∃ cur, W.heap[b]? = some (.cells cur 35) := by
  rcases h.own.2 with ⟨rfl, _⟩ | ⟨g, cap, cur, rfl, hg, hh, _⟩
  · simp [Value.ownBlock] at hb
  · simp only [Value.ownBlock] at hb
    injection hb with hb
    subst hb
    exact ⟨hg, (Array.getElem?_eq_some_iff.1 hh).1, cur, hh⟩
/-- the blocks of X change, and none of them is the claims' row, a variable or a sub-claim's. -/
theorem RI0.core (h : RI0 w Bs name mem F A ps c n W os t cl V L Ao co) {X : Nat → Prop} (hg : Gr X W W')
    (hX : ∀ b, b < W.heap.size → X b → b = Bs ∨ (w.heap.size + 3 ≤ b ∧ ∃ o, W.heap[b]? = some o ∧ o.isCells = false)) (sb : SB W' Bs name mem F A ps c Ao' os' co' t') (fo : OT W' Ao' os') :
    RI0 w Bs name mem F A ps c n W' os' t' cl V L Ao' co' := by
  have hlt := h.lt
  have hz := h.size
  have nx : ∀ b, w.heap.size ≤ b → b < W.heap.size → (∃ o, W.heap[b]? = some o ∧ o.isCells = true) → ¬ X b := fun b hb hb2 ⟨o, ho, hc⟩ x => by
    rcases hX b hb2 x with e | ⟨_, o', ho', hc'⟩
    · omega
    · rw [ho] at ho'; cases ho'; rw [hc] at hc'; cases hc'
  have bc : ∀ {b t cs}, Blk W b t cs → w.heap.size ≤ b → ¬ X b := fun {b t cs} hb hle => nx b hle hb.lt ⟨_, hb, rfl⟩
  refine ⟨?_, Nat.le_trans hz hg.size, hg.blk h.b0 (bc h.b0 (Nat.le_refl _)), hg.blk h.b1 (bc h.b1 (by omega)), hg.blk h.b2 (bc h.b2 (by omega)), sb, hlt, h.fa, fo, ?_, ?_⟩
  · refine hg.grown h.grown fun k hk x => ?_
    rcases hX k (by omega) x with e | ⟨e, _⟩
    · exact e
    · omega
  · have hr : W.grownBy W' none → True := fun _ => trivial
    refine ⟨h.own.1, ?_⟩
    rcases h.own.2 with hn | ⟨g, cap, cur, e, hb, hgg, rest⟩
    · exact .inl hn
    · have := (Array.getElem?_eq_some_iff.1 hgg).1
      exact .inr ⟨g, cap, cur, e, hb, (hg.block g this (nx g (by omega) this ⟨_, hgg, rfl⟩)).trans hgg, rest⟩
  · refine h.cvs.keep fun b ⟨q1, q2, o, q3, q4⟩ => ?_
    have hb := (Array.getElem?_eq_some_iff.1 q3).1
    have e := hg.block b hb (nx b (by omega) hb ⟨o, q3, q4⟩)
    exact ⟨fun _ => World.cell?_of_block e, q1, q2, o, e.trans q3, q4⟩
theorem SB.gr (h : SB W Bs name mem F A ps c Ao os co t) {X : Nat → Prop} (hg : Gr X W W') (hs : ¬ X Bs) (ha : ∀ b o, A = some ⟨b, o, none⟩ → 0 < ps.length → ¬ X b) (ho : ∀ b o, Ao = some ⟨b, o, none⟩ → 0 < os.length → ¬ X b) : SB W' Bs name mem F A ps c Ao os co t := by
  refine ⟨hg.blk h.blk hs, fun hn => ?_, fun hn => ?_, h.ne, h.cap⟩
  · obtain ⟨b, o, e, hb, hc⟩ := h.pt hn
    exact ⟨b, o, e, Nat.lt_of_lt_of_le hb hg.size, fun i hi j v hv => hg.cell (hc i hi j v hv) (ha b o e hn)⟩
  · obtain ⟨b, o, e, hb, hc⟩ := h.of hn
    exact ⟨b, o, e, Nat.lt_of_lt_of_le hb hg.size, fun i hi => hg.cell (hc i hi) (ho b o e hn)⟩
theorem OT.gr {X : Nat → Prop} (hg : Gr X W W') (ho : ∀ b o, Ao = some ⟨b, o, none⟩ → 0 < os.length → ¬ X b) (h : OT W Ao os) : OT W' Ao os := fun b o e hn => by
  obtain ⟨cur, hc⟩ := h b o e hn
  exact ⟨cur, (hg.block b (Array.getElem?_eq_some_iff.1 hc).1 (ho b o e hn)).trans hc⟩
/-- new blocks, and blocks that are no cells. -/
theorem RI0.turn (h : RI0 w Bs name mem F A ps c n W os t cl V L Ao co) {X : Nat → Prop} (hg : Gr X W W') (hX : ∀ b, b < W.heap.size → X b → w.heap.size + 3 ≤ b ∧ ∃ o, W.heap[b]? = some o ∧ o.isCells = false) : RI0 w Bs name mem F A ps c n W' os t cl V L Ao co := by
  have hz := h.size
  have hlt := h.lt
  have ho : ∀ b o, Ao = some ⟨b, o, none⟩ → 0 < os.length → ¬ X b := fun b o e hn x => by
    obtain ⟨cur, hc⟩ := h.fo b o e hn
    obtain ⟨_, o', ho', hc'⟩ := hX b (Array.getElem?_eq_some_iff.1 hc).1 x
    rw [hc] at ho'; cases ho'; cases hc'
  exact h.core hg (fun b hb x => .inr (hX b hb x))
    (h.sb.gr hg (fun x => by have := (hX Bs (by omega) x).1; omega) (fun b o e hn x => by
      have h1 := (h.fa b o e hn).1
      have := (hX b (by omega) x).1
      omega) ho) (h.fo.gr hg ho)
theorem RI0.below (h : RI0 w Bs name mem F A ps c n W os t cl V L Ao co) (hb : Below W.heap.size W W') : RI0 w Bs name mem F A ps c n W' os t cl V L Ao co :=
  h.turn (X := fun _ => False) (.of_below hb) fun _ _ x => x.elim
/-- one claim more. -/
theorem RI0.push (h : RI0 w Bs name mem F A ps c n W os t cl V L Ao co) (hg : Gr (fun b => V.ownBlock = some b ∨ b = w.heap.size + 1) W W') (hV : V'.ownBlock = V.ownBlock ∨ ∃ g, V'.ownBlock = some g ∧ W.heap.size ≤ g) (x : CV) (y : Claim)
    (own : W'.ownsRow (w.heap.size + 3) 35 4 V' (cl.length + 1) (L.flatMap CV.cells ++ CV.cells x)) (b1 : Blk W' (w.heap.size + 1) 29 #[V'])
    (hx : x.f = y.frm ∧ x.t = y.to ∧ x.w = y.wth ∧ x.s.n = y.sub.length ∧ x.s.n ≤ x.s.c ∧ x.s.c ≤ maxLen ∧ RdCls W (RQ w W V) x.s.a y.sub) : RI0 w Bs name mem F A ps c n W' os t (cl ++ [y]) V' (L ++ [x]) Ao co := by
  have hz := h.size
  have hlt := h.lt
  have nlow : ∀ b, b < w.heap.size + 3 → b ≠ w.heap.size + 1 → ¬ (V.ownBlock = some b ∨ b = w.heap.size + 1) := fun b hb hne e => by
    rcases e with e | e
    · have := (h.ownNe e).1; omega
    · exact hne e
  have ho : ∀ b o, Ao = some ⟨b, o, none⟩ → 0 < os.length → ¬ (V.ownBlock = some b ∨ b = w.heap.size + 1) := fun b o e hn x => by
    obtain ⟨cur, hc⟩ := h.fo b o e hn
    rcases x with x | rfl
    · obtain ⟨_, _, cur', hc'⟩ := h.ownNe x
      rw [hc] at hc'; cases hc'
    · have := h.b1
      unfold Blk at this
      rw [hc] at this; cases this
  have keepQ : ∀ b, RQ w W V b → (∀ o, W'.cell? ⟨b, o, none⟩ = W.cell? ⟨b, o, none⟩) ∧ RQ w W' V' b := fun b ⟨q1, q2, o, q3, q4⟩ => by
    have hb := (Array.getElem?_eq_some_iff.1 q3).1
    have e := hg.block b hb (fun e => by
      rcases e with e | e
      · exact q2 e
      · omega)
    refine ⟨fun _ => World.cell?_of_block e, q1, fun e2 => ?_, o, e.trans q3, q4⟩
    rcases hV with hV | ⟨g, hV, hg2⟩
    · exact q2 (hV ▸ e2)
    · rw [hV] at e2; injection e2 with e2; omega
  refine ⟨?_, Nat.le_trans hz hg.size, hg.blk h.b0 (nlow _ (by omega) (by omega)), b1, hg.blk h.b2 (nlow _ (by omega) (by omega)), h.sb.gr hg (nlow _ (by omega) (by omega)) (fun b o e hn => ?_) ho, hlt, h.fa, h.fo.gr hg ho, ?_, ?_⟩
  · refine hg.grown h.grown fun k hk x => absurd x (nlow k (by omega) (by omega))
  · have := (h.fa b o e hn).1
    exact nlow b (by omega) (by omega)
  · simpa using own
  · obtain ⟨a1, a2, a3, a4, a5, a6, a7⟩ := hx
    exact (h.cvs.keep keepQ).push x y ⟨a1, a2, a3, a4, a5, a6, a7.keep keepQ⟩
theorem cv_set (L0 : List CV) (x : CV) (k : Int) : ((L0 ++ [x]).flatMap CV.cells).set (L0.length * 4 + 1) (.int .i64 k) = (L0 ++ [{ x with t := k }]).flatMap CV.cells := by
  simp only [List.flatMap_append, List.flatMap_cons, List.flatMap_nil, List.append_nil]
  rw [List.set_append_right _ _ (by rw [CV.len]; omega), CV.len, show L0.length * 4 + 1 - L0.length * 4 = 1 by omega]
  rfl
/-- the last claim goes on. -/
theorem RI0.last {cl0 : List Claim} {f t0 wi : Int} {sub : List Claim} {g cap : Nat} {L0 : List CV} {x : CV} (h : RI0 w Bs name mem F A ps c n W os t (cl0 ++ [.mk f t0 wi sub]) (.slice (some ⟨g, 0, none⟩) (cl0.length + 1) cap) (L0 ++ [x]) Ao co) (hl : L0.length = cl0.length) (k : Int) :
    RI0 w Bs name mem F A ps c n (W.setCell ⟨g, cl0.length * 4 + 1, none⟩ (.int .i64 k)) os t (cl0 ++ [.mk f k wi sub]) (.slice (some ⟨g, 0, none⟩) (cl0.length + 1) cap) (L0 ++ [{ x with t := k }]) Ao co := by
  have hz := h.size
  have hlt := h.lt
  obtain ⟨hg3, hgw, cur, hcur⟩ := h.ownNe (b := g) rfl
  have hg : Gr (fun b => b = g) W (W.setCell ⟨g, cl0.length * 4 + 1, none⟩ (.int .i64 k)) := Gr.setCell W _ _ rfl
  have ho : ∀ b o, Ao = some ⟨b, o, none⟩ → 0 < os.length → ¬ b = g := fun b o e hn x => by
    obtain ⟨cur', hc⟩ := h.fo b o e hn
    subst x
    rw [hc] at hcur; cases hcur
  have keepQ : ∀ b, RQ w W (.slice (some ⟨g, 0, none⟩) (cl0.length + 1) cap) b → (∀ o, (W.setCell ⟨g, cl0.length * 4 + 1, none⟩ (.int .i64 k)).cell? ⟨b, o, none⟩ = W.cell? ⟨b, o, none⟩) ∧ RQ w (W.setCell ⟨g, cl0.length * 4 + 1, none⟩ (.int .i64 k)) (.slice (some ⟨g, 0, none⟩) (cl0.length + 1) cap) b := fun b ⟨q1, q2, o, q3, q4⟩ => by
    have hb := (Array.getElem?_eq_some_iff.1 q3).1
    have e := hg.block b hb (fun e => q2 (by rw [e]; rfl))
    exact ⟨fun _ => World.cell?_of_block e, q1, q2, o, e.trans q3, q4⟩
  have hown := (h.own)
  simp only [List.length_append, List.length_cons, List.length_nil, Nat.zero_add] at hown
  have hst := (hown.stored (cl0.length * 4 + 1) (.int .i64 k)).1
  rw [← hl, cv_set, hl] at hst
  refine ⟨?_, Nat.le_trans hz hg.size, hg.blk h.b0 (by omega), hg.blk h.b1 (by omega), hg.blk h.b2 (by omega), h.sb.gr hg (by omega) (fun b o e hn => by have := (h.fa b o e hn).1; omega) ho, hlt, h.fa, h.fo.gr hg ho, by simpa using hst, ?_⟩
  · exact hg.grown h.grown fun j hj x => by omega
  · have hcv := h.cvs.keep keepQ
    refine ⟨by simp [hl], fun i hi hi' => ?_⟩
    have h0 := hcv.2 i (by simpa using hi) (by simpa using hi')
    by_cases e : i < cl0.length
    · simpa [List.getElem_append_left (show i < L0.length by omega), List.getElem_append_left e] using h0
    · have e2 : i = cl0.length := by simp at hi'; omega
      subst e2
      simp only [List.getElem_append_right (Nat.le_refl _), Nat.sub_self, List.getElem_append_right (show L0.length ≤ cl0.length by omega), hl, List.getElem_cons_zero, Claim.frm, Claim.to, Claim.wth, Claim.sub] at h0 ⊢
      obtain ⟨a1, a2, a3, a4, a5, a6, a7⟩ := h0
      exact ⟨a1, trivial, a3, a4, a5, a6, a7⟩
/-- k rounds are over. -/
def IR (w : World) (Bs : Nat) (name : ByteArray) (mem F : Int) (A : Option Addr) (ps : List Part) (c : Nat) (os : List Int) (t0 : Nat) (rec : List Int → Nat → Res) (d : Nat) (k : Nat) (W : World) : Prop :=
  ∃ cl t V L Ao co, prefR ps rec os t0 k = .claims cl t ∧ t + d ≤ 65536 ∧ RI0 w Bs name mem F A ps c os.length W os (t + d : Nat) cl V L Ao co
theorem IR.own {t0 : Nat} {rec : List Int → Nat → Res} {d B : Nat} (hB : w.heap.size + 3 ≤ B) : OwnFrom B (IR w Bs name mem F A ps c os t0 rec d) := fun _ _ _ row ⟨cl, t, V, L, Ao, co, h1, h2, h3⟩ hg hr =>
  ⟨cl, t, V, L, Ao, co, h1, h2, h3.turn (X := fun b => row = some b) (.of_grown hg fun _ e => e) fun b _ e => ⟨Nat.le_trans hB (hr b e).1, (hr b e).2⟩⟩
/-- one try more. -/
theorem RI0.tries (h : RI0 w Bs name mem F A ps c n W os t cl V L Ao co) (hb : Below W.heap.size (W.setCell ⟨Bs, 5, none⟩ (.int .i64 t')) W') : KeepsOthers W W' ∧ RI0 w Bs name mem F A ps c n W' os t' cl V L Ao co ∧ ∀ g ty cs, g ≠ Bs → Blk W g ty cs → Blk W' g ty cs := by
  have e : (W.setCell ⟨Bs, 5, none⟩ (.int .i64 t')).heap.size = W.heap.size := by simp [World.setCell]
  have hb' : Below (W.setCell ⟨Bs, 5, none⟩ (.int .i64 t')).heap.size (W.setCell ⟨Bs, 5, none⟩ (.int .i64 t')) W' := by rw [e]; exact hb
  have hg : Gr (fun b => b = Bs) W W' := (Gr.setCell (X := fun b => b = Bs) W ⟨Bs, 5, none⟩ _ rfl).trans (.of_below hb')
  have ho : ∀ b o, Ao = some ⟨b, o, none⟩ → 0 < os.length → ¬ b = Bs := fun b o e hn => h.sb.ne b o e hn
  exact ⟨(KeepsOthers.setCell W _ _).trans (keeps_below hb'), h.core hg (fun b _ x => .inl x) ((h.sb.try1 t').next hb') (h.fo.gr hg ho), fun g ty cs hne hk => hg.blk hk hne⟩
theorem RI0.tEq (h : RI0 w Bs name mem F A ps c n W os t cl V L Ao co) (hx : SBx W Bs name mem F A ps c os t') : t' = t := by
  obtain ⟨Ao', co', hx⟩ := hx
  have h1 := h.sb.blk.cell 5
  have h2 := hx.blk.cell 5
  rw [h1] at h2
  simp at h2
  exact h2.symm
/-- the claims' variable, stored anew. -/
theorem RI0.self (h : RI0 w Bs name mem F A ps c n W os t cl V L Ao co) (hg : Gr (fun b => b = w.heap.size + 1) W W') (b1 : Blk W' (w.heap.size + 1) 29 #[V]) : RI0 w Bs name mem F A ps c n W' os t cl V L Ao co := by
  have hz := h.size
  have hlt := h.lt
  have ho : ∀ b o, Ao = some ⟨b, o, none⟩ → 0 < os.length → ¬ b = w.heap.size + 1 := fun b o e hn x => by
    obtain ⟨cur, hc⟩ := h.fo b o e hn
    subst x
    have := h.b1
    unfold Blk at this
    rw [hc] at this; cases this
  refine ⟨hg.grown h.grown fun k hk x => by omega, Nat.le_trans hz hg.size, hg.blk h.b0 (by omega), b1, hg.blk h.b2 (by omega), h.sb.gr hg (by omega) (fun b o e hn => by have := (h.fa b o e hn).1; omega) ho, hlt, h.fa, h.fo.gr hg ho, ?_, ?_⟩
  · refine ⟨h.own.1, ?_⟩
    rcases h.own.2 with hn | ⟨g, cap, cur, e, hb, hgg, rest⟩
    · exact .inl hn
    · have := (Array.getElem?_eq_some_iff.1 hgg).1
      exact .inr ⟨g, cap, cur, e, hb, (hg.block g this (by omega)).trans hgg, rest⟩
  · refine h.cvs.keep fun b ⟨q1, q2, o, q3, q4⟩ => ?_
    have hb := (Array.getElem?_eq_some_iff.1 q3).1
    have e := hg.block b hb (by omega)
    exact ⟨fun _ => World.cell?_of_block e, q1, q2, o, e.trans q3, q4⟩
theorem Shut.gr {B : Nat} (h : Shut B W W') {lo : Nat} (hl : lo ≤ B) : Gr (fun b => lo ≤ b ∧ ∃ o, W.heap[b]? = some o ∧ o.isCells = false) W W' :=
  ⟨h.below.os, h.below.tape, h.below.output, h.size, fun k hk hx => by
    by_cases e : k < lo
    · exact h.below.block k (by omega)
    · have hs : W.heap[k]? = some W.heap[k] := Array.getElem?_eq_getElem hk
      cases hc : (W.heap[k]).isCells with
      | true => exact (h.cells k _ hs hc).trans hs.symm
      | false => exact absurd ⟨by omega, _, hs, hc⟩ hx⟩
/-- the claims at the end. -/
theorem RI0.post (h : RI0 w Bs name mem F A ps c n W os t cl V L Ao co) : ∃ A' c', V = .slice A' cl.length c' ∧ cl.length ≤ c' ∧ c' ≤ maxLen ∧ RdCls W (MadeQ w.heap.size W) A' cl := by
  refine rdCls_of_own (L := L) h.cvs.1.symm h.own (h.cvs.keep fun b ⟨q1, q2, q3⟩ => ⟨fun _ => rfl, by omega, q3⟩) fun g hg => ?_
  obtain ⟨a, b, cur, hc⟩ := h.ownNe hg
  exact ⟨by omega, _, hc, rfl⟩
end
theorem leaves_marksM {F : Fence} {n : Nat} {P : Program} {fn : Func} {tmps : Array Value} {R : Ending → World → Prop} {m : FrameMode} (hr : m ≠ .run) : ∀ (Ds : List Nat) (W : World) (B : Nat), Ds.Nodup → (∀ D ∈ Ds, B ≤ D ∧ W.heap[D]? = some (.deferred (some []))) →
    (∀ W', Shut B W W' → LeavesIn F n P fn tmps R [] m W') → LeavesInM F n P fn tmps R (Ds.map markD) m W
  | [], W, B, _, _, h => h W ⟨Below.refl _ _, fun _ _ hk _ => hk, Nat.le_refl _⟩
  | D :: Ds, W, B, hn, hm, h => by
    obtain ⟨hD, hn'⟩ := List.nodup_cons.1 hn
    obtain ⟨hB, hW⟩ := hm D (by simp)
    refine ⟨hr, .inl ⟨D, _, rfl, run_takeDeferred hW, ?_⟩⟩
    refine leaves_marksM hr Ds _ B hn' (fun E hE => ⟨(hm E (by simp [hE])).1, (World.putObj_heap_other (by rintro rfl; exact hD hE)).trans (hm E (by simp [hE])).2⟩) fun W' hS => h W' ?_
    refine ⟨?_, fun k o hk hc => hS.cells k o ((World.putObj_heap_other (fun e => ?_)).trans hk) hc, ?_⟩
    · exact ((Below.refl B W).grown (grownBy_putObj' W D (.deferred none)) (by have := (Array.getElem?_eq_some_iff.1 hW).1; omega) (fun k e => by cases e; omega)).trans hS.below
    · subst e; rw [hW] at hk; cases hk; cases hc
    · have := hS.size; simpa using this
end Go.Proofs.Ytlmbffnmjfbglab
