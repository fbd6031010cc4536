/- A claim appended: the row behind the append, its four cells stored, and the claims' variable. -/
import Derived.Test.YtlmbffnmjfbglabP9
namespace Go.Proofs.Ytlmbffnmjfbglab
open Go.ChangeShapes Go.WideShapes Go.ChangeAt Go.RowKit

/-- a claim's four cells stored. -/
def st4 (W : World) (g o : Nat) (x : CV) : World := (((W.setCell ⟨g, o, none⟩ (.int .i64 x.f)).setCell ⟨g, o + 1, none⟩ (.int .i64 x.t)).setCell ⟨g, o + 2, none⟩ (.int .i64 x.w)).setCell ⟨g, o + 3, none⟩ (.slice x.s.a x.s.n x.s.c)
theorem st4_gr {X : Nat → Prop} (W : World) (g o : Nat) (x : CV) (h : X g) : Gr X W (st4 W g o x) :=
  (((Gr.setCell W _ _ h).trans (Gr.setCell _ _ _ h)).trans (Gr.setCell _ _ _ h)).trans (Gr.setCell _ _ _ h)
theorem st4_keeps (W : World) (g o : Nat) (x : CV) : KeepsOthers W (st4 W g o x) :=
  (((KeepsOthers.setCell W _ _).trans (KeepsOthers.setCell _ _ _)).trans (KeepsOthers.setCell _ _ _)).trans (KeepsOthers.setCell _ _ _)
theorem own4 {W : World} {base n g cap : Nat} {xs : List Value} {a b c d : Value} (hl : xs.length = n * 4) (h : W.ownsRow base 35 4 (.slice (some ⟨g, 0, none⟩) (n + 1) cap) (n + 1) (xs ++ [a, b, c, d])) (x : CV) :
    (st4 W g (n * 4) x).ownsRow base 35 4 (.slice (some ⟨g, 0, none⟩) (n + 1) cap) (n + 1) (xs ++ CV.cells x) := by
  have h1 := (h.stored (n * 4) (.int .i64 x.f)).1
  have h2 := (h1.stored (n * 4 + 1) (.int .i64 x.t)).1
  have h3 := (h2.stored (n * 4 + 2) (.int .i64 x.w)).1
  have h4 := (h3.stored (n * 4 + 3) (.slice x.s.a x.s.n x.s.c)).1
  have e : ((((xs ++ [a, b, c, d]).set (n * 4) (.int .i64 x.f)).set (n * 4 + 1) (.int .i64 x.t)).set (n * 4 + 2) (.int .i64 x.w)).set (n * 4 + 3) (.slice x.s.a x.s.n x.s.c) = xs ++ CV.cells x := by
    rw [List.set_append_right _ _ (by omega), List.set_append_right _ _ (by omega), List.set_append_right _ _ (by omega), List.set_append_right _ _ (by omega), hl]
    rw [show n * 4 - n * 4 = 0 by omega, show n * 4 + 1 - n * 4 = 1 by omega, show n * 4 + 2 - n * 4 = 2 by omega, show n * 4 + 3 - n * 4 = 3 by omega]
    rfl
  rw [e] at h4
  exact h4
section
variable {w : World} {Bs : Nat} {name : ByteArray} {mem F : Int} {A : Option Addr} {ps : List Part} {c n : Nat} {W w2 : World} {os : List Int} {t : Int} {cl : List Claim} {V : Value} {L : List CV} {Ao : Option Addr} {co g cap : Nat} {z0 z1 z2 z3 : Value}
/-- the claim stored, then the variable; and the variable first. -/
theorem RI0.app (h : RI0 w Bs name mem F A ps c n W os t cl V L Ao co) (hgrow : W.grownBy w2 V.ownBlock) (hown : w2.ownsRow (w.heap.size + 3) 35 4 (.slice (some ⟨g, 0, none⟩) (cl.length + 1) cap) (cl.length + 1) (L.flatMap CV.cells ++ [z0, z1, z2, z3]))
    (hg : V.ownBlock = some g ∨ g = W.heap.size) (x : CV) (y : Claim) (hx : x.f = y.frm ∧ x.t = y.to ∧ x.w = y.wth ∧ x.s.n = y.sub.length ∧ x.s.n ≤ x.s.c ∧ x.s.c ≤ maxLen ∧ RdCls W (RQ w W V) x.s.a y.sub) :
    RI0 w Bs name mem F A ps c n ((st4 w2 g (cl.length * 4) x).setCell ⟨w.heap.size + 1, 0, none⟩ (.slice (some ⟨g, 0, none⟩) (cl.length + 1) cap)) os t (cl ++ [y]) (.slice (some ⟨g, 0, none⟩) (cl.length + 1) cap) (L ++ [x]) Ao co ∧
    RI0 w Bs name mem F A ps c n (st4 (w2.setCell ⟨w.heap.size + 1, 0, none⟩ (.slice (some ⟨g, 0, none⟩) (cl.length + 1) cap)) g (cl.length * 4) x) os t (cl ++ [y]) (.slice (some ⟨g, 0, none⟩) (cl.length + 1) cap) (L ++ [x]) Ao co := by
  have hz := h.size
  have hgB : g ≠ w.heap.size + 1 := fun e => by
    rcases hg with hg | hg
    · have := (h.ownNe hg).1; omega
    · omega
  have hgX : W.heap.size ≤ g ∨ (V.ownBlock = some g ∨ g = w.heap.size + 1) := by rcases hg with hg | hg <;> simp [hg]
  have hV : (Value.slice (some ⟨g, 0, none⟩) (cl.length + 1) cap).ownBlock = V.ownBlock ∨ ∃ g', (Value.slice (some ⟨g, 0, none⟩) (cl.length + 1) cap).ownBlock = some g' ∧ W.heap.size ≤ g' := by
    rcases hg with hg | hg
    · exact .inl (by rw [hg]; rfl)
    · exact .inr ⟨g, rfl, by omega⟩
  have hb2 : Blk w2 (w.heap.size + 1) 29 #[V] := (hgrow.block (w.heap.size + 1) (by omega) (fun e => by have := (h.ownNe e.symm).1; omega)).trans h.b1
  have hl : (L.flatMap CV.cells).length = cl.length * 4 := by rw [CV.len, h.cvs.1]
  have g0 : Gr (fun b => V.ownBlock = some b ∨ b = w.heap.size + 1 ∨ W.heap.size ≤ b) W w2 := .of_grown hgrow fun k e => .inl e
  have hXg : (fun b => V.ownBlock = some b ∨ b = w.heap.size + 1 ∨ W.heap.size ≤ b) g := by rcases hg with hg | hg <;> simp [hg]
  have hm : ∀ {W' : World}, Gr (fun b => V.ownBlock = some b ∨ b = w.heap.size + 1 ∨ W.heap.size ≤ b) W W' → Gr (fun b => V.ownBlock = some b ∨ b = w.heap.size + 1) W W' := fun k => k.mono fun b hb x => by
    rcases x with x | x | x
    · exact .inl x
    · exact .inr x
    · omega
  have hbs : Blk (st4 w2 g (cl.length * 4) x) (w.heap.size + 1) 29 #[V] := (st4_gr (X := fun b => b = g) w2 g _ x rfl).blk hb2 (fun e => hgB e.symm)
  have hgs : ∀ (W' : World) (v : Value), W'.grownBy (W'.setCell ⟨w.heap.size + 1, 0, none⟩ v) (some (w.heap.size + 1)) := fun W' v => ⟨rfl, rfl, rfl, by simp [World.setCell], fun k _ hk => Below.heap_setCell W' _ v k (fun e => hk (by rw [e]))⟩
  have hne : (Value.slice (some ⟨g, 0, none⟩) (cl.length + 1) cap).ownBlock = none ∨ (Value.slice (some ⟨g, 0, none⟩) (cl.length + 1) cap).ownBlock ≠ some (w.heap.size + 1) := .inr (by simp [Value.ownBlock, hgB])
  have k1 := (own4 hl hown x).kept (hgs _ (.slice (some ⟨g, 0, none⟩) (cl.length + 1) cap)) hne
  have k2 := own4 hl (hown.kept (hgs _ (.slice (some ⟨g, 0, none⟩) (cl.length + 1) cap)) hne) x
  refine ⟨?_, ?_⟩
  · exact h.push (hm ((g0.trans (st4_gr w2 g _ x hXg)).trans (Gr.setCell _ _ _ (.inr (.inl rfl))))) hV x y k1 (hbs.set_ 0 _) hx
  · exact h.push (hm ((g0.trans (Gr.setCell _ _ _ (.inr (.inl rfl)))).trans (st4_gr _ g _ x hXg))) hV x y k2 ((st4_gr (X := fun b => b = g) _ g _ x rfl).blk (hb2.set_ 0 _) (fun e => hgB e.symm)) hx
end
end Go.Proofs.Ytlmbffnmjfbglab
