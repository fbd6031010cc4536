/- A range over a function whose rounds may panic: the round's contract out of its body's walk, and the statement's law. -/
import Derived.RangeFuncNested
import Derived.RangeFuncLeaves
import Derived.Shelf.Abstract
import Derived.WalkKit
import Derived.OwnWalkIn
import Derived.TacticsInMore
import Derived.LoopNIn
import Derived.LoopIn
import Derived.Test.YtlmbffnmjfbglabwW3
namespace Go.Proofs.Ytlmbffnmjfbglab
open Go.ChangeShapes Go.WideShapes Go.ChangeAt Go.RowKit

/-- what is asked at a round's end, a panic among the ways. -/
def roundPostP (P : Program) (l : Nat) (R : Ending → World → Prop) : Exit → Act → World → Prop
  | .normal, _, w => ∃ v w', (Instr.endRound l none).run P w = .ok v w' ∧ R (.returned v) w'
  | .panic chain, a, w => a.defers = [] ∧ R (.panicked chain) w
  | _, _, _ => False

theorem roundIn_of_wpInP {P : Program} {n : Nat} {l : Nat} {f : FuncId} {tmps : Array Value} {assign body : Code} {w : World} {R : Ending → World → Prop} (hf : ∃ fn, P.funcs[f]? = some fn)
    (h : assign.wpIn (Fence.wide.inRound l) n P (Exit.then (fun a₁ w₁ => ∃ w₂, (Instr.beginRound l).run P w₁ = .ok () w₂ ∧ body.wpIn (Fence.wide.inRound l) n P (roundPostP P l R) a₁ w₂) (fun _ _ _ => False))
      { tmps := tmps, defers := [] } w) :
    RoundIn Fence.wide n P l f tmps assign body w R := by
  refine ⟨trivial, fun c cs hr => ?_⟩
  let b : Frame := { (default : Frame) with fn := f, kind := .normal, roundOf := some l }
  have hb0 : Frame.round l f tmps assign body .normal = b.atR { tmps := tmps, defers := [] } [.code assign, .beginRound, .code body] := by
    simp [Frame.round, Frame.atR, b]
  have hr' : (Fence.wide.inRound l).room ((c :: cs).length + 1 + n) := hr
  have hF' : (Fence.wide.inRound l).fn b.fn := trivial
  obtain ⟨e, a₁, w₁, hq, harr⟩ := h b [.beginRound, .code body] (c :: cs) rfl hF' hr'
  rw [← hb0] at harr
  cases e with
  | normal =>
    obtain ⟨w₂, hbr, hbody⟩ := hq
    have s1 : StepsIn (Machine.fenced P (Fence.wide.inRound l)) P (lone (b.atR a₁ [.beginRound, .code body]) (c :: cs) w₁) (lone (b.atR a₁ [.code body]) (c :: cs) w₂) :=
      .one (fenced_calm (fr := b.atR a₁ [.beginRound, .code body]) hF' hr' rfl) (stepR_beginRound rfl hbr)
    obtain ⟨e₂, a₂, w₃, hq₂, harr₂⟩ := hbody b [] (c :: cs) rfl hF' hr'
    cases e₂ with
    | normal =>
      obtain ⟨v, w₄, hend, hR⟩ := hq₂
      exact ⟨.returned v, w₄, hR, (StepsIn.trans harr s1).trans (StepsIn.trans harr₂ (.one (fenced_calm (fr := b.atR a₂ []) hF' hr' rfl) (stepR_round_end rfl rfl hend)))⟩
    | panic chain =>
      obtain ⟨hd, hR⟩ := hq₂
      obtain ⟨todo, hs⟩ := harr₂
      obtain ⟨fn, hfn⟩ := hf
      have hleave : ({ b.atR a₂ todo with mode := .panicking chain } : Frame).leaving P w₃ (.panicked chain) := ⟨rfl, hd, fn, hfn⟩
      exact ⟨.panicked chain, w₃, hR, (StepsIn.trans harr s1).trans (StepsIn.trans hs (.one (fenced_leaving hF' hr' hleave) (step_leave_panicked hleave)))⟩
    | ret => exact hq₂.elim
    | exit id => exact hq₂.elim
    | goto t => exact hq₂.elim
    | outgrown => exact hq₂.elim
  | exit id => exact hq.elim
  | goto t => exact hq.elim
  | ret => exact hq.elim
  | panic chain => exact hq.elim
  | outgrown => exact hq.elim
/-- how a round's body may be left. -/
def postP (I : Nat → World → Prop) (Ip : List PanicEntry → World → Prop) (k : Nat) (W : World) : Exit → Act → World → Prop
  | .normal, _, W' => KeepsOthers W W' ∧ I (k + 1) W'
  | .panic ch, a, W' => a.defers = [] ∧ KeepsOthers W W' ∧ Ip ch W'
  | _, _, _ => False

/-- what an iterator does that hands N elements to a yield, unless a yield panics or it panics by itself. -/
def SeqP (P : Program) (m gf : Nat) (lb : Array Value) (enc : Nat → Array Value) (N : Nat) (Ok : Nat → World → Prop) (Adv Over : Nat → World → World → Prop) (cho : List PanicEntry) : Prop :=
  ∀ (l : Nat) (J M : Nat → World → Prop) (Mo Mf : World → Prop) (Jp : List PanicEntry → World → Prop) (W : World),
    (∀ k W1, J k W1 → Ok k W1 ∧ k ≤ N) →
    (∀ k W1 W2, J k W1 → k < N → Adv k W1 W2 → M k W2) →
    (∀ k W1 W2, J k W1 → k < N → Over k W1 W2 → Mo W2) →
    (∀ W1 W2, J N W1 → Below W1.heap.size W1 W2 → Mf W2) →
    (∀ k W2, M k W2 → YieldAt Fence.wide (m - 1) P l (enc k) W2 fun e W' => (e = .returned (.bool true) ∧ J (k + 1) W') ∨ ∃ ch, e = .panicked ch ∧ Jp ch W') →
    J 0 W → CallsIn Fence.wide m P gf (#[.func (.yield l) #[] #[]] ++ lb) W fun e W' => ((∃ v, e = .returned v) ∧ Mf W') ∨ (∃ ch, e = .panicked ch ∧ Jp ch W') ∨ (e = .panicked cho ∧ Mo W')

/-- a walk of code in the activations of one function alone (no round's), inside the wide fence. -/
def WpOf (f : FuncId) (_n : Nat) (P : Program) (c : Code) (Q : Exit → Act → World → Prop) (a : Act) (w : World) : Prop :=
  ∀ (b : Frame) (k : List Item) (cs : List Frame), b.roundOf = none → b.fn = f →
    ∃ e a' w', Q e a' w' ∧ ArrivesIn (Machine.fenced P Fence.wide) P (lone (b.atR a (.code c :: k)) cs w) b k cs e a' w'
section
variable {f : FuncId} {n : Nat} {P : Program} {Q : Exit → Act → World → Prop} {a : Act} {w : World}
theorem WpOf.of_in {c : Code} (h : c.wpIn Fence.wide n P Q a w) : WpOf f n P c Q a w := fun b k cs hro _ => h b k cs hro trivial (room_wide _)
theorem WpOf.seq {x y : Code} (h : WpOf f n P x (Exit.then (fun a w => WpOf f n P y Q a w) Q) a w) : WpOf f n P (.seq x y) Q a w := by
  intro b k cs hro hb
  have st : StepsIn (Machine.fenced P Fence.wide) P (lone (b.atR a (.code (.seq x y) :: k)) cs w) (lone (b.atR a (.code x :: .code y :: k)) cs w) := .one (fenced_wide P _) stepR_seq
  obtain ⟨e, a₁, w₁, hq, harr⟩ := h b (.code y :: k) cs hro hb
  have through : e ≠ .normal → Q e a₁ w₁ → ∃ e a' w', Q e a' w' ∧ ArrivesIn (Machine.fenced P Fence.wide) P (lone (b.atR a (.code (.seq x y) :: k)) cs w) b k cs e a' w' := fun hne hq =>
    ⟨e, a₁, w₁, hq, .of_steps st (.pass (x := .code y) rfl (fun _ _ => .inl hne) harr)⟩
  cases e with
  | normal =>
    obtain ⟨e₂, a₂, w₂, hq₂, harr₂⟩ := hq b k cs hro hb
    exact ⟨e₂, a₂, w₂, hq₂, .of_steps (st.trans harr) harr₂⟩
  | exit id => exact through (by simp) hq
  | goto l => exact through (by simp) hq
  | ret => exact through (by simp) hq
  | panic ch => exact through (by simp) hq
  | outgrown => exact through (by simp) hq
/-- a block that is left at its end, or by a panic. -/
theorem WpOf.block {id : Nat} {c : Code} {R : Act → World → Prop} {S : List PanicEntry → Act → World → Prop}
    (h : WpOf f n P c (fun e a w => match e with | .normal => R a w | .panic ch => S ch a w | _ => False) a w) (hR : ∀ a w, R a w → Q .normal a w) (hS : ∀ ch a w, S ch a w → Q (.panic ch) a w) : WpOf f n P (.block id c) Q a w := by
  intro b k cs hro hb
  have st : StepsIn (Machine.fenced P Fence.wide) P (lone (b.atR a (.code (.block id c) :: k)) cs w) (lone (b.atR a (.code c :: .inBlock id :: k)) cs w) := .one (fenced_wide P _) stepR_block
  obtain ⟨e, a₁, w₁, hq, harr⟩ := h b (.inBlock id :: k) cs hro hb
  cases e with
  | normal => exact ⟨.normal, a₁, w₁, hR _ _ hq, st.trans (StepsIn.trans harr (.one (fenced_wide P _) stepR_inBlock))⟩
  | panic ch => exact ⟨.panic ch, a₁, w₁, hS _ _ _ hq, by obtain ⟨todo, hs⟩ := harr; exact ⟨todo, st.trans hs⟩⟩
  | exit id => exact hq.elim
  | goto l => exact hq.elim
  | ret => exact hq.elim
  | outgrown => exact hq.elim
/-- the statement: entered, its one call made, and what the call's end leaves to do. -/
theorem WpOf.range {g : Operand} {ps : Array Tmp} {assign body : Code} {l gf : Nat} {mark : List Deferred} {w₁ w₂ w₁' : World} {d : Deferred} {args : Array Value}
    (he : (Instr.enterLoop f a.tmps ps assign body none).run P w = .ok (l, mark) w₁) (hres : (resolve a.eval (rangeCall g l) 0).run P w₁ = .ok d w₁') (hinv : (invoke d.target d.args).run P w₁' = .ok (.enter gf args) w₂)
    (hc : CallsIn Fence.wide (n - 1) P gf args w₂ fun e w₃ => (∃ v w₄, e = .returned v ∧ (Instr.endLoop l).run P w₃ = .ok none w₄ ∧ Q .normal { a with defers := mark ++ a.defers } w₄) ∨ (∃ ch, e = .panicked ch ∧ Q (.panic ch) { a with defers := mark ++ a.defers } w₃)) :
    WpOf f n P (.rangeFunc g ps assign body) Q a w := by
  intro b k cs hro hb
  subst hb
  rw [← hro] at he
  have st := stepR_rangeFunc (P := P) (b := b) (a := a) (k := k) (cs := cs) (w := w) he hres hinv
  obtain ⟨e, w₃, fr, hR, hsteps, hfn, hleave⟩ := hc.2 (b.atR { a with defers := mark ++ a.defers } (.inRangeFunc l :: k) :: cs) (room_wide _)
  rcases hR with ⟨v, w₄, rfl, hend, hq⟩ | ⟨ch, rfl, hq⟩
  · refine ⟨.normal, _, w₄, hq, .head (fenced_wide P _) st (StepsIn.trans hsteps (.head (m₁ := lone (b.atR { a with defers := mark ++ a.defers } (.endRangeFunc l :: k)) cs w₃) (fenced_wide P _) ?_ (.one (fenced_wide P _) ?_)))⟩
    · rw [← finish_atR_inRangeFunc l v]; exact step_leave_returned hleave
    · exact stepR_endRangeFunc hend
  · refine ⟨.panic ch, _, w₃, hq, .inRangeFunc l :: k, .head (fenced_wide P _) st (StepsIn.trans hsteps (.one (fenced_wide P _) ?_))⟩
    rw [← Frame.raise_atR]; exact step_leave_panicked hleave
end
theorem wpOf_rangeP {P : Program} {f : FuncId} {n : Nat} {g : Operand} {ps : Array Tmp} {assign body : Code} {Q : Exit → Act → World → Prop} {a : Act} {w : World} {gf : Nat} {lb : Array Value}
    (hg : a.eval g = .func (.func gf) #[] lb) (eg : ∀ args w, (callFunc gf args).run P w = .ok (.enter gf args) w)
    (enc : Nat → Array Value) (hps : ∀ k, (enc k).size = ps.size) (N : Nat) (Ok : Nat → World → Prop) (Adv Over : Nat → World → World → Prop) (cho : List PanicEntry)
    (hseq : SeqP P (n - 1) gf lb enc N Ok Adv Over cho)
    (I Im : Nat → World → Prop) (Io If : World → Prop) (Ip : List PanicEntry → World → Prop) (hI : OwnFrom w.heap.size I) (hIm : OwnFrom w.heap.size Im) (hIf : OwnFrom w.heap.size (fun (_ : Nat) W => If W))
    (hOk : ∀ k W, I k W → Ok k W ∧ k ≤ N)
    (hA : ∀ k W1 W2, I k W1 → k < N → Adv k W1 W2 → KeepsOthers W1 W2 ∧ Im k W2)
    (hO : ∀ k W1 W2, I k W1 → k < N → Over k W1 W2 → KeepsOthers W1 W2 ∧ Io W2)
    (hF : ∀ W1 W2, I N W1 → Below W1.heap.size W1 W2 → If W2)
    (h0 : I 0 w) (a₁ : Nat → Act)
    (hfn : ∃ fn, P.funcs[f]? = some fn)
    (hassign : ∀ (l k : Nat) (W : World) (K : Act → World → Prop), K (a₁ k) W →
      assign.wpIn (Fence.wide.inRound l) (n - 1 - 1) P (Exit.then K fun _ _ _ => False) { tmps := (ps.zip (enc k)).foldl (fun t (p, v) => t.setIfInBounds p v) a.tmps, defers := [] } W)
    (hbody : ∀ (l k : Nat) (W : World), Im k W → body.wpIn (Fence.wide.inRound l) (n - 1 - 1) P (postP I Ip k W) (a₁ k) W)
    (hend : ∀ W : World, If W → W.heap[w.heap.size]? = some (.deferred (some [])) → Q .normal { a with defers := { target := .collected w.heap.size, args := #[] } :: a.defers } W)
    (hpan : ∀ ch (W : World), (Ip ch W ∨ (ch = cho ∧ Io W)) → W.heap[w.heap.size]? = some (.deferred (some [])) → Q (.panic ch) { a with defers := { target := .collected w.heap.size, args := #[] } :: a.defers } W) :
    WpOf f n P (Code.rangeFunc g ps assign body) Q a w := by
  let rec_ : LoopState → Option Code → Loop := fun st pe => { state := st, pending := pe, fn := f, tmps := a.tmps, params := ps, assign, body, defers := w.heap.size }
  obtain ⟨W1, hW1⟩ : ∃ W1, (w.alloc (.deferred (some []))).alloc (.loop (rec_ .ready none)) = W1 := ⟨_, rfl⟩
  have hL1 : W1.heap[w.heap.size + 1]? = some (.loop (rec_ .ready none)) := by
    rw [← hW1]; have := World.alloc_heap_new (w.alloc (.deferred (some []))) (.loop (rec_ .ready none)); rwa [World.size_alloc] at this
  have hK1 : W1.heap[w.heap.size]? = some (.deferred (some [])) := by
    rw [← hW1]; exact (Below.heap_alloc _ _ _ (by simp)).trans (World.alloc_heap_new w _)
  have hI1 : I 0 W1 := by rw [← hW1]; exact hI.alloc _ (hI.alloc _ h0)
  refine WpOf.range (l := w.heap.size + 1) (mark := [{ target := .collected w.heap.size, args := #[] }]) (w₁ := W1) (d := { target := .fn (.func gf) lb, args := #[.func (.yield (w.heap.size + 1)) #[] #[]] }) (w₁' := W1) (gf := gf)
    (args := #[.func (.yield (w.heap.size + 1)) #[] #[]] ++ lb) (w₂ := W1) ?_ ?_ ?_ ?_
  · rw [← hW1]; exact run_enterLoop_outer _ _ _ _ _
  · simp only [resolve, hg]
    simp [go_sem]
  · simp [invoke, go_sem, eg]
  refine (hseq (w.heap.size + 1) (fun k W => I k W ∧ W.heap[w.heap.size + 1]? = some (.loop (rec_ .ready none)) ∧ W.heap[w.heap.size]? = some (.deferred (some [])))
    (fun k W => Im k W ∧ W.heap[w.heap.size + 1]? = some (.loop (rec_ .ready none)) ∧ W.heap[w.heap.size]? = some (.deferred (some [])))
    (fun W => Io W ∧ W.heap[w.heap.size]? = some (.deferred (some [])))
    (fun W => If W ∧ W.heap[w.heap.size + 1]? = some (.loop (rec_ .ready none)) ∧ W.heap[w.heap.size]? = some (.deferred (some [])))
    (fun ch W => Ip ch W ∧ W.heap[w.heap.size]? = some (.deferred (some [])))
    W1 (fun k W h => hOk k W h.1) ?_ ?_ ?_ ?_ ⟨hI1, hL1, hK1⟩).mono ?_
  · rintro k Wa Wb ⟨hi, hl, hk⟩ hkN hadv
    obtain ⟨hko, him⟩ := hA k Wa Wb hi hkN hadv
    exact ⟨him, hko.same _ _ hl rfl, hko.same _ _ hk rfl⟩
  · rintro k Wa Wb ⟨hi, hl, hk⟩ hkN hov
    obtain ⟨hko, hio⟩ := hO k Wa Wb hi hkN hov
    exact ⟨hio, hko.same _ _ hk rfl⟩
  · rintro Wa Wb ⟨hi, hl, hk⟩ hb
    have lt : ∀ i o, Wa.heap[i]? = some o → i < Wa.heap.size := fun i o h => (Array.getElem?_eq_some_iff.1 h).1
    exact ⟨hF Wa Wb hi hb, (hb.block _ (lt _ _ hl)).trans hl, (hb.block _ (lt _ _ hk)).trans hk⟩
  · rintro k W ⟨hi, hl, hk⟩
    have hlt : w.heap.size + 1 < W.heap.size := (Array.getElem?_eq_some_iff.1 hl).1
    refine ⟨f, _, assign, body, run_yield (P := P) (args := enc k) hl (hps k), roundIn_of_wpInP hfn (hassign _ k W _ ⟨_, run_beginRound hl rfl, ?_⟩)⟩
    have hl2 : (W.putObj (w.heap.size + 1) (.loop { rec_ .ready none with state := .busy })).heap[w.heap.size + 1]? = some (.loop { rec_ .ready none with state := .busy }) := World.putObj_heap_same hlt
    have hk2 : (W.putObj (w.heap.size + 1) (.loop { rec_ .ready none with state := .busy })).heap[w.heap.size]? = some (.deferred (some [])) := (World.putObj_heap_other (by omega)).trans hk
    refine wpIn_mono (hbody _ k _ (hIm.putObj _ hi (by omega) hl rfl)) ?_
    rintro e a3 W3 hp
    cases e with
    | normal =>
      obtain ⟨hk3, hi3⟩ := hp
      have hl3 := hk3.same _ _ hl2 rfl
      refine ⟨_, _, run_endRound (P := P) none hl3, .inl ⟨rfl, hI.putObj _ hi3 (by omega) hl3 rfl, World.putObj_heap_same (Array.getElem?_eq_some_iff.1 hl3).1, (World.putObj_heap_other (by omega)).trans (hk3.same _ _ hk2 rfl)⟩⟩
    | panic ch =>
      obtain ⟨hd, hk3, hi3⟩ := hp
      exact ⟨hd, .inr ⟨ch, rfl, hi3, hk3.same _ _ hk2 rfl⟩⟩
    | ret => exact hp.elim
    | exit id => exact hp.elim
    | goto t => exact hp.elim
    | outgrown => exact hp.elim
  · rintro e W2 (⟨⟨v, rfl⟩, hi, hl, hk⟩ | ⟨ch, rfl, hi, hk⟩ | ⟨rfl, hi, hk⟩)
    · exact .inl ⟨v, _, rfl, run_endLoop (P := P) hl (by simp [rec_]), hend _ (hIf.putObj (s := 0) _ hi (by omega) hl rfl) ((World.putObj_heap_other (by omega)).trans hk)⟩
    · exact .inr ⟨ch, rfl, hpan ch W2 (.inl hi) hk⟩
    · exact .inr ⟨cho, rfl, hpan cho W2 (.inr ⟨rfl, hi⟩) hk⟩
/-- a function's contract out of the walk in its own activations. -/
theorem callsIn_of_wpOf {P : Program} {f : FuncId} {n : Nat} {fn : Func} {c : Code} {args : Array Value} {w : World} {R : Ending → World → Prop} (hf : P.funcs[f]? = some fn) (hb : fn.body = some c)
    (h : WpOf f n P c (bodyPostM Fence.wide n P fn R) { tmps := args ++ Array.replicate (fn.ntmps - args.size) undef, defers := [] } w) : CallsIn Fence.wide n P f args w R := by
  refine ⟨trivial, fun cs _ => ?_⟩
  obtain ⟨b, hb0⟩ : ∃ b : Frame, b = { (default : Frame) with fn := f, kind := .normal, roundOf := none } := ⟨_, rfl⟩
  have hent : Frame.enter P f args .normal = b.atR { tmps := args ++ Array.replicate (fn.ntmps - args.size) undef, defers := [] } [.code c] := by
    subst hb0; simp [Frame.enter, Frame.atR, hf, hb]
  have h1 : b.roundOf = none := by subst hb0; rfl
  have h2 : b.fn = f := by subst hb0; rfl
  have h3 : b.kind = .normal := by subst hb0; rfl
  have hfb : P.funcs[b.fn]? = some fn := by rw [h2]; exact hf
  obtain ⟨e, a', w', hq, harr⟩ := h b [] cs h1 h2
  rw [← hent] at harr
  cases e with
  | normal =>
    obtain ⟨e', w'', fr', hR, hs, hfn, hl⟩ := leaves_stepsInM a'.defers .returning w' { b.atR a' [] with mode := .returning } cs rfl rfl rfl hfb h3 trivial (room_wide _) hq
    exact ⟨e', w'', fr', hR, ComesIn.of_steps (StepsIn.trans harr (.one (fenced_wide P _) (stepR_end h1))) hs, hfn.trans h2, hl⟩
  | ret =>
    obtain ⟨todo, hs₀⟩ := harr.1 h1
    obtain ⟨e', w'', fr', hR, hs, hfn, hl⟩ := leaves_stepsInM a'.defers .returning w' { b.atR a' todo with mode := .returning } cs rfl rfl rfl hfb h3 trivial (room_wide _) hq
    exact ⟨e', w'', fr', hR, ComesIn.of_steps hs₀ hs, hfn.trans h2, hl⟩
  | panic chain =>
    obtain ⟨todo, hs₀⟩ := harr
    obtain ⟨e', w'', fr', hR, hs, hfn, hl⟩ := leaves_stepsInM a'.defers (.panicking chain) w' { b.atR a' todo with mode := .panicking chain } cs rfl rfl rfl hfb h3 trivial (room_wide _) hq
    exact ⟨e', w'', fr', hR, ComesIn.of_steps hs₀ hs, hfn.trans h2, hl⟩
  | exit id => exact hq.elim
  | goto l => exact hq.elim
  | outgrown => exact ⟨.outgrown, w', b, hq, harr.resolve_left (by rw [h3]; simp), h2, trivial⟩
end Go.Proofs.Ytlmbffnmjfbglab
