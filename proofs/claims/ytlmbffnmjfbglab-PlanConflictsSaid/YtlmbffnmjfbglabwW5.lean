/- Meet. -/
import Derived.Test.YtlmbffnmjfbglabwW4
namespace Go.Proofs.Ytlmbffnmjfbglab
open Go.ChangeShapes Go.WideShapes Go.ChangeAt Go.RowKit

attribute [local go_sem] Oper.semAt_some

theorem wide_call {P : Program} {f n : Nat} {args : Array Value} {w : World} {R R' : Ending → World → Prop} (h : Calls P f args w R) (hm : ∀ e w', R e w' → R' e w') : Fence.wide.fn f ∧ CallsIn Fence.wide n P f args w R' :=
  ⟨trivial, (callsIn_wide.2 h).mono hm⟩
theorem round_call {P : Program} {f n l : Nat} {args : Array Value} {w : World} {R R' : Ending → World → Prop} (h : Calls P f args w R) (hm : ∀ e w', R e w' → R' e w') : (Fence.wide.inRound l).fn f ∧ CallsIn (Fence.wide.inRound l) n P f args w R' :=
  ⟨trivial, CallsIn.inRound l ((callsIn_wide.2 h).mono hm)⟩
theorem ownFrom_blk {β : Type} (B g : Nat) (t : TypeId) (cs : Array Value) : OwnFrom B (fun (_ : β) W => Blk W g t cs) := fun _ X _ _ hs hg hr =>
  (hg.block g hs.lt (fun e => by obtain ⟨_, o, ho, hc⟩ := hr g e.symm; rw [show X.heap[g]? = _ from hs] at ho; cases ho; cases hc)).trans hs
theorem keeps_below {W W' : World} (h : Below W.heap.size W W') : KeepsOthers W W' :=
  ⟨h.size, fun k _ hk _ => (h.block k (Array.getElem?_eq_some_iff.1 hk).1).trans hk⟩

/-- the k-th opening of a meets an opening of b. -/
def hitB (a b : Slot) (k : Nat) : Bool := decide (firstS b (a.tk k) < a.tk k + a.len)

/-- what Meet's loop keeps. -/
structure MI (w : World) (a b : Slot) (W : World) : Prop where
  ba : Blk W w.heap.size 46 #[.int .i64 a.off, .int .i64 a.per, .int .i64 a.len]
  bb : Blk W (w.heap.size + 1) 46 #[.int .i64 b.off, .int .i64 b.per, .int .i64 b.len]
  r1 : Blk W (w.heap.size + 2) 3 #[.int .i64 0]
  r2 : Blk W (w.heap.size + 3) 4 #[.bool false]
  hb : Below w.heap.size w W
theorem MI.next {w : World} {a b : Slot} {W W' : World} (h : MI w a b W) (hb : Below W.heap.size W W') : MI w a b W' :=
  ⟨h.ba.below hb h.ba.lt, h.bb.below hb h.bb.lt, h.r1.below hb h.r1.lt, h.r2.below hb h.r2.lt, h.hb.trans (hb.mono h.hb.size)⟩
theorem MI.own {β : Type} {w : World} {a b : Slot} {B : Nat} (hB : w.heap.size ≤ B) : OwnFrom B (fun (_ : β) W => MI w a b W) := fun s X Y row hs hg hr =>
  ⟨ownFrom_blk (β := β) B _ _ _ s X Y row hs.ba hg hr, ownFrom_blk (β := β) B _ _ _ s X Y row hs.bb hg hr, ownFrom_blk (β := β) B _ _ _ s X Y row hs.r1 hg hr, ownFrom_blk (β := β) B _ _ _ s X Y row hs.r2 hg hr,
   ownFrom_below (Nat.le_refl _) hB s X Y row hs.hb hg hr⟩
/-- what it leaves. -/
structure MX (w : World) (T : Int) (W : World) : Prop where
  r1 : Blk W (w.heap.size + 2) 3 #[.int .i64 T]
  r2 : Blk W (w.heap.size + 3) 4 #[.bool true]
  hb : Below w.heap.size w W
theorem MX.own {β : Type} {w : World} {T : Int} {B : Nat} (hB : w.heap.size ≤ B) : OwnFrom B (fun (_ : β) W => MX w T W) := fun s X Y row hs hg hr =>
  ⟨ownFrom_blk (β := β) B _ _ _ s X Y row hs.r1 hg hr, ownFrom_blk (β := β) B _ _ _ s X Y row hs.r2 hg hr, ownFrom_below (Nat.le_refl _) hB s X Y row hs.hb hg hr⟩

theorem mi_start (w : World) (a b : Slot) : MI w a b ((((w.alloc (.cells #[.int .i64 a.off, .int .i64 a.per, .int .i64 a.len] 46)).alloc (.cells #[.int .i64 b.off, .int .i64 b.per, .int .i64 b.len] 46)).alloc (.cells #[.int .i64 0] 3)).alloc (.cells #[.bool false] 4)) := by
  have b0 := (((Blk.new w 46 #[.int .i64 a.off, .int .i64 a.per, .int .i64 a.len]).alloc (.cells #[.int .i64 b.off, .int .i64 b.per, .int .i64 b.len] 46)).alloc (.cells #[.int .i64 0] 3)).alloc (.cells #[.bool false] 4)
  have b1 := ((Blk.new (w.alloc (.cells #[.int .i64 a.off, .int .i64 a.per, .int .i64 a.len] 46)) 46 #[.int .i64 b.off, .int .i64 b.per, .int .i64 b.len]).alloc (.cells #[.int .i64 0] 3)).alloc (.cells #[.bool false] 4)
  have b2 := (Blk.new ((w.alloc (.cells #[.int .i64 a.off, .int .i64 a.per, .int .i64 a.len] 46)).alloc (.cells #[.int .i64 b.off, .int .i64 b.per, .int .i64 b.len] 46)) 3 #[.int .i64 0]).alloc (.cells #[.bool false] 4)
  have b3 := Blk.new (((w.alloc (.cells #[.int .i64 a.off, .int .i64 a.per, .int .i64 a.len] 46)).alloc (.cells #[.int .i64 b.off, .int .i64 b.per, .int .i64 b.len] 46)).alloc (.cells #[.int .i64 0] 3)) 4 #[.bool false]
  simp only [World.size_alloc] at b1 b2 b3
  exact ⟨b0, b1, b2, b3, (((((Below.refl _ w).alloc (Nat.le_refl _) _).alloc (by simp) _).alloc (by simp; omega) _).alloc (by simp; omega) _)⟩

end Go.Proofs.Ytlmbffnmjfbglab
