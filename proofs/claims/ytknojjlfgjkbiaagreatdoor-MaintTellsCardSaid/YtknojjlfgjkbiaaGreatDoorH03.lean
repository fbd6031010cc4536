/- Texts A2 B4 C1, joined. -/
import Derived.Test.YtknojjlfgjkbiaaGreatDoorH00
import Derived.Test.YtknojjlfgjkbiaaGreatDoorH02
set_option linter.unusedSimpArgs false
set_option linter.unusedVariables false
set_option linter.unusedSectionVars false
/- Drawn regions: whatever order is picked. -/
/- A drawn region in a round, by the plain moves: the plain walk over any order is a walk in the round's fence. -/
namespace Go.Proofs.YtknojjlfgjkbiaaGreatDoor
open Go.ChangeShapes Go.WideShapes Go.ChangeAt Go.RowKit

theorem rowsIn_wide {n : Nat} {P : Program} {row : String} {args : Array Value} {w : World} {R : Value → World → Prop} (h : Rows P row args w R) : RowsIn Fence.wide n P row args w R := fun c cs _ =>
  let ⟨v, w', r, s⟩ := h c cs; ⟨v, w', r, stepsIn_wide.2 s⟩
theorem oper_round {P : Program} {l n : Nat} {o : Oper} {a : Act} {w : World} {K : Act → World → Prop} {Q : Exit → Act → World → Prop} (ho : ∀ c, o.op ≠ .defer c) (h : o.wp P a w K Q) : o.wpIn (Fence.wide.inRound l) n P a w K Q := by
  unfold Oper.wpIn
  refine ⟨fun _ _ => trivial, ?_⟩
  rw [Oper.semAt_eq _ _ _ ho]
  unfold Oper.wp at h
  generalize (execOp a.eval o).run P w = r at *
  cases r with
  | ok x w' =>
    cases x with
    | value v => exact h
    | skip => exact h
    | defer d => exact h
    | enter f args => exact ⟨fun h => by simp [Fence.wide] at h, CallsIn.inRound l ((callsIn_wide.2 h).mono fun e w'' he => by cases e <;> exact he)⟩
    | row row args => exact ⟨fun h => by simp [Fence.wide] at h, rowsIn_wide h⟩
    | _ => exact h.elim
  | halt x w' => cases x <;> first | exact h | exact h.elim
section
variable {P : Program} {ops : Array Oper} {Q : Exit → Act → World → Prop} {S : World → Prop} {md : Region.Mode} {l n : Nat}
theorem wpAnyIn_round (hd : ∀ (i : Nat) (o : Oper), ops[i]? = some o → ∀ c, o.op ≠ .defer c) (hQ : ¬ LetsOut Q) : ∀ (fuel : Nat) (listed : Array Bool) (a : Act) (w : World), wpAny P md ops Q fuel listed a w → wpAnyIn (Fence.wide.inRound l) n P md ops Q fuel listed a w
  | 0, _, _, _, h => h
  | fuel + 1, listed, a, w, h => by
    refine ⟨h.1, fun i hi => ?_⟩
    have h2 := wpOp_mono (fun a w => wpAnyIn_round hd hQ fuel (listed.setIfInBounds i true) a w) (h.2 i hi)
    unfold wpOp at h2
    unfold wpOpIn
    split
    · rename_i he; simpa [he] using h2
    · rename_i o ho
      simp only [ho] at h2
      split
      · rename_i hw
        simp only [hw, if_true] at h2
        rcases h2 with h2 | ⟨_, h2⟩
        · exact oper_round (hd i o ho) h2
        · exact absurd h2 hQ
      · rename_i hw
        simp only [hw] at h2
        exact ⟨fun _ _ => trivial, h2⟩
/-- no defer statement among the operations. -/
def noDefer (ops : Array Oper) : Bool := ops.all fun o => match o.op with | .defer _ => false | _ => true
theorem noDefer_spec (h : noDefer ops = true) (i : Nat) (o : Oper) (ho : ops[i]? = some o) (c : Call) : o.op ≠ .defer c := fun e => by
  obtain ⟨hlt, rfl⟩ := Array.getElem?_eq_some_iff.1 ho
  have := Array.all_eq_true.1 h i hlt
  simp [e] at this
/-- a drawn region in a round: by the plain moves from here on. -/
theorem wpIn_region_round {id : Nat} {a : Act} {w : World} (S : World → Prop) (hm : P.follows .mixedOrders = true) (hd : noDefer ops = true) (hQ : ¬ LetsOut Q) (hS : S w.drew)
    (h : S w.drew → wpAnyH P .any ops Q S ops.size (Array.replicate ops.size false) a w.drew) : (Code.region id ops true).wpIn (Fence.wide.inRound l) n P Q a w :=
  wpIn_region_any hm (wpAnyIn_round (noDefer_spec hd) hQ _ _ _ _ (wpAny_of_held _ _ _ _ (h hS)))
end
end Go.Proofs.YtknojjlfgjkbiaaGreatDoor
/- A load may be taken first where the store that writes its cell waits for it: the condition on the world is asked till that store alone. -/
namespace Go.Proofs.YtknojjlfgjkbiaaGreatDoor
open Go.ChangeShapes Go.WideShapes Go.ChangeAt Go.RowKit

section
variable {P : Program} {ops : Array Oper} {Q : Exit → Act → World → Prop} {md : Region.Mode} {S : World → Prop} {s : Nat}
/-- whatever order is picked from here on, and S holds behind every operation till s has come up. -/
def wpAnyS (P : Program) (md : Region.Mode) (ops : Array Oper) (Q : Exit → Act → World → Prop) (S : World → Prop) (s : Nat) : Nat → Array Bool → Act → World → Prop
  | 0, listed, a, w => Region.ready md ops listed = [] ∧ Q .normal a w
  | fuel + 1, listed, a, w =>
    (Region.ready md ops listed = [] → Q .normal a w) ∧
    ∀ i ∈ Region.ready md ops listed, wpOp P ops Q i (fun a' w' => ((listed.setIfInBounds i true).getD s false = false → S w') ∧ wpAnyS P md ops Q S s fuel (listed.setIfInBounds i true) a' w') a w
theorem wpAny_of_S : ∀ (fuel : Nat) (listed : Array Bool) (a : Act) (w : World), wpAnyS P md ops Q S s fuel listed a w → wpAny P md ops Q fuel listed a w
  | 0, _, _, _, h => h
  | fuel + 1, _, _, _, h => ⟨h.1, fun i hi => wpOp_mono (fun a' w' h' => wpAny_of_S fuel _ a' w' h'.2) (h.2 i hi)⟩
theorem getD_set_far (listed : Array Bool) {i j : Nat} (h : i ≠ j) : (listed.setIfInBounds i true).getD j false = listed.getD j false := getD_set_ne false h
theorem wpAnyS_first {i : Nat} {oi : Oper} {v : Value} (hi : ops[i]? = some oi) (hsel : ∀ (j : Nat) (o : Oper) cs b, ops[j]? = some o → o.op ≠ .select cs b)
    (hQ : ∀ c a w, Q (.panic c) (a.put oi.dst v) w → Q (.panic c) a w) (C : List Nat) (hsC : s ∈ C) (hiC : i ∉ C) (hs : ∀ j ∈ C, ∀ oj, ops[j]? = some oj → ∃ e ∈ oj.after, Region.binds md e = true ∧ (e.on = i ∨ e.on ∈ C)) :
    ∀ (fuel : Nat) (listed : Array Bool) (a : Act) (w : World),
      (∀ j oj, ops[j]? = some oj → j ≠ i → listed.getD j true = false → (∀ e ∈ oj.after, Region.binds md e = true → e.on ≠ i) → oi.apart ops oj = true) →
      i ∈ Region.ready md ops listed → YieldsIf P ops S oi v a → S w → (∀ j ∈ C, listed.getD j false = false) →
      wpAnyS P md ops Q S s fuel (listed.setIfInBounds i true) (a.put oi.dst v) w → wpAnyS P md ops Q S s (fuel + 1) listed a w := by
  intro fuel
  induction fuel with
  | zero =>
    intro listed a w _ hr hy hS hls H
    refine ⟨fun h => (by rw [h] at hr; cases hr), fun j hj => ?_⟩
    by_cases hji : j = i
    · subst hji; exact hy.wpOp hi hS ⟨fun _ => hS, H⟩
    · have := ready_mono hj hji
      rw [H.1] at this
      cases this
  | succ fuel ih =>
    intro listed a w hfree hr hy hS hls H
    refine ⟨fun h => (by rw [h] at hr; cases hr), fun j hj => ?_⟩
    by_cases hji : j = i
    · subst hji; exact hy.wpOp hi hS ⟨fun _ => hS, H⟩
    · have h1 := H.2 j (ready_mono hj hji)
      obtain ⟨hjun, oj, hoj, hall⟩ := mem_ready.1 hj
      have hnot : ∀ e ∈ oj.after, Region.binds md e = true → e.on ≠ i := fun e he hb heq => by
        have h1 := hall e he hb
        have h0 := (mem_ready.1 hr).1
        rw [heq] at h1
        rcases Nat.lt_or_ge i listed.size with h' | h'
        · simp [h'] at h0 h1; rw [h0] at h1; cases h1
        · simp [Array.getElem?_eq_none h'] at h1
      have hjC : j ∉ C := fun hj => by
        obtain ⟨e, he, hb, hon⟩ := hs j hj oj hoj
        rcases hon with hon | hon
        · exact hnot e he hb hon
        · have h1 := hall e he hb
          have h0 := hls e.on hon
          rcases Nat.lt_or_ge e.on listed.size with h' | h'
          · simp [h'] at h0 h1; rw [h0] at h1; cases h1
          · simp [Array.getElem?_eq_none h'] at h1
      have hjs : j ≠ s := fun e => hjC (e ▸ hsC)
      have hsi : s ≠ i := fun e => hiC (e ▸ hsC)
      have h2 := wpOp_putIf hoj (hfree j oj hoj hji hjun hnot) (fun cs b => hsel i oi cs b hi) (fun cs b => hsel j oj cs b hoj) hQ hy h1
      have hfree' : ∀ k ok, ops[k]? = some ok → k ≠ i → (listed.setIfInBounds j true).getD k true = false →
          (∀ e ∈ ok.after, Region.binds md e = true → e.on ≠ i) → oi.apart ops ok = true := fun k ok hk hki hun hno => by
        refine hfree k ok hk hki ?_ hno
        by_cases hjk : j = k
        · subst hjk; exact hjun
        · rw [getD_set_ne true hjk] at hun; exact hun
      have hl' : ∀ x ∈ C, (listed.setIfInBounds j true).getD x false = false := fun x hx => by rw [getD_set_far _ (show j ≠ x from fun e => hjC (by rw [e]; exact hx))]; exact hls x hx
      have hl2 : ((listed.setIfInBounds i true).setIfInBounds j true).getD s false = false := by rw [getD_set_far _ hjs, getD_set_far _ (Ne.symm hsi)]; exact hls s hsC
      refine wpOp_mono (fun a' w' h3 => ⟨fun _ => h3.2.1 hl2, ih (listed.setIfInBounds j true) a' w' hfree' (ready_mono hr (Ne.symm hji)) h3.1 (h3.2.1 hl2) hl' ?_⟩) h2
      rw [Array.setIfInBounds_comm _ _ hji]
      exact h3.2.2
theorem wpAnyS_firstT {i : Nat} {oi : Oper} {v : Value} (hi : ops[i]? = some oi) (hsel : ∀ (j : Nat) (o : Oper) cs b, ops[j]? = some o → o.op ≠ .select cs b)
    (hQ : ∀ c a w, Q (.panic c) (a.put oi.dst v) w → Q (.panic c) a w) (hsi : s ≠ i) :
    ∀ (fuel : Nat) (listed : Array Bool) (a : Act) (w : World),
      (∀ j oj, ops[j]? = some oj → j ≠ i → listed.getD j true = false → (∀ e ∈ oj.after, Region.binds md e = true → e.on ≠ i) → oi.apart ops oj = true) →
      i ∈ Region.ready md ops listed → YieldsIf P ops (fun _ => True) oi v a → (listed.getD s false = false → S w) →
      wpAnyS P md ops Q S s fuel (listed.setIfInBounds i true) (a.put oi.dst v) w → wpAnyS P md ops Q S s (fuel + 1) listed a w := by
  intro fuel
  induction fuel with
  | zero =>
    intro listed a w _ hr hy hS H
    refine ⟨fun h => (by rw [h] at hr; cases hr), fun j hj => ?_⟩
    by_cases hji : j = i
    · subst hji; exact hy.wpOp hi trivial ⟨fun h => hS (by rw [getD_set_far _ (Ne.symm hsi)] at h; exact h), H⟩
    · have := ready_mono hj hji
      rw [H.1] at this
      cases this
  | succ fuel ih =>
    intro listed a w hfree hr hy hS H
    refine ⟨fun h => (by rw [h] at hr; cases hr), fun j hj => ?_⟩
    by_cases hji : j = i
    · subst hji; exact hy.wpOp hi trivial ⟨fun h => hS (by rw [getD_set_far _ (Ne.symm hsi)] at h; exact h), H⟩
    · have h1 := H.2 j (ready_mono hj hji)
      obtain ⟨hjun, oj, hoj, hall⟩ := mem_ready.1 hj
      have hnot : ∀ e ∈ oj.after, Region.binds md e = true → e.on ≠ i := fun e he hb heq => by
        have h1 := hall e he hb
        have h0 := (mem_ready.1 hr).1
        rw [heq] at h1
        rcases Nat.lt_or_ge i listed.size with h' | h'
        · simp [h'] at h0 h1; rw [h0] at h1; cases h1
        · simp [Array.getElem?_eq_none h'] at h1
      have h2 := wpOp_putIf hoj (hfree j oj hoj hji hjun hnot) (fun cs b => hsel i oi cs b hi) (fun cs b => hsel j oj cs b hoj) hQ hy h1
      have hfree' : ∀ k ok, ops[k]? = some ok → k ≠ i → (listed.setIfInBounds j true).getD k true = false →
          (∀ e ∈ ok.after, Region.binds md e = true → e.on ≠ i) → oi.apart ops ok = true := fun k ok hk hki hun hno => by
        refine hfree k ok hk hki ?_ hno
        by_cases hjk : j = k
        · subst hjk; exact hjun
        · rw [getD_set_ne true hjk] at hun; exact hun
      have hcv : ∀ h : (listed.setIfInBounds j true).getD s false = false, ((listed.setIfInBounds i true).setIfInBounds j true).getD s false = false := fun h => by
        rw [Array.setIfInBounds_comm _ _ (Ne.symm hji), getD_set_far _ (Ne.symm hsi)]; exact h
      refine wpOp_mono (fun a' w' h3 => ⟨fun h => h3.2.1 (hcv h), ih (listed.setIfInBounds j true) a' w' hfree' (ready_mono hr (Ne.symm hji)) h3.1 (fun h => h3.2.1 (hcv h)) ?_⟩) h2
      rw [Array.setIfInBounds_comm _ _ hji]
      exact h3.2.2
theorem wpAnyS_takeT {i : Nat} {oi : Oper} {v : Value} {fuel : Nat} {listed : Array Bool} {a : Act} {w : World} (hi : ops[i]? = some oi)
    (hs : Region.noSelect ops = true) (hf : Region.free md ops listed i = true) (hr : (Region.ready md ops listed).contains i = true) (hw : (s != i) = true)
    (hQ : ∀ c a w, Q (.panic c) (a.put oi.dst v) w → Q (.panic c) a w) (hy : YieldsIf P ops (fun _ => True) oi v a) (hS : S w)
    (h : wpAnyS P md ops Q S s fuel (listed.setIfInBounds i true) (a.put oi.dst v) w) : wpAnyS P md ops Q S s (fuel + 1) listed a w :=
  wpAnyS_firstT hi (Region.noSelect_spec hs) hQ (by simpa using hw) fuel listed a w (Region.free_spec hi hf) (by simpa using hr) hy (fun _ => hS) h
/-- whatever waits for i, through others too. -/
def after_ (md : Region.Mode) (ops : Array Oper) (i : Nat) : List Nat :=
  (List.range ops.size).foldl (fun C j => match ops[j]? with
    | some o => if o.after.any (fun e => Region.binds md e && (e.on == i || C.contains e.on)) then j :: C else C
    | none => C) []
def waits (md : Region.Mode) (ops : Array Oper) (C : List Nat) (s i : Nat) (listed : Array Bool) : Bool :=
  C.contains s && !C.contains i && C.all (fun j => !listed.getD j false && match ops[j]? with
    | some o => o.after.any fun e => Region.binds md e && (e.on == i || C.contains e.on)
    | none => true)
theorem wpAnyS_take {i : Nat} {oi : Oper} {v : Value} {fuel : Nat} {listed : Array Bool} {a : Act} {w : World} (hi : ops[i]? = some oi)
    (hs : Region.noSelect ops = true) (hf : Region.free md ops listed i = true) (hr : (Region.ready md ops listed).contains i = true) (hw : waits md ops (after_ md ops i) s i listed = true)
    (hQ : ∀ c a w, Q (.panic c) (a.put oi.dst v) w → Q (.panic c) a w) (hy : YieldsIf P ops S oi v a) (hS : S w)
    (h : wpAnyS P md ops Q S s fuel (listed.setIfInBounds i true) (a.put oi.dst v) w) : wpAnyS P md ops Q S s (fuel + 1) listed a w := by
  generalize after_ md ops i = C at hw
  simp only [waits, Bool.and_eq_true, Bool.not_eq_true', List.all_eq_true, List.contains_iff_mem] at hw
  obtain ⟨⟨h1, h2⟩, h3⟩ := hw
  refine wpAnyS_first hi (Region.noSelect_spec hs) hQ C h1 (fun e => by rw [← List.contains_iff_mem, h2] at e; cases e) (fun j hj oj ho => ?_) fuel listed a w (Region.free_spec hi hf) (by simpa using hr) hy hS (fun j hj => (h3 j hj).1) h
  have h4 := (h3 j hj).2
  rw [ho] at h4
  simp only [Array.any_eq_true'] at h4
  obtain ⟨e, he, hb⟩ := h4
  simp only [Bool.and_eq_true, Bool.or_eq_true, beq_iff_eq, List.contains_iff_mem] at hb
  exact ⟨e, he, hb.1, hb.2⟩
def AllReadyS (P : Program) (md : Region.Mode) (ops : Array Oper) (Q : Exit → Act → World → Prop) (S : World → Prop) (s : Nat) (fuel : Nat) (listed : Array Bool) (a : Act) (w : World) (rs : List Nat) : Prop :=
  ∀ i ∈ rs, wpOp P ops Q i (fun a' w' => ((listed.setIfInBounds i true).getD s false = false → S w') ∧ wpAnyS P md ops Q S s fuel (listed.setIfInBounds i true) a' w') a w
theorem AllReadyS.nil {fuel : Nat} {listed : Array Bool} {a : Act} {w : World} : AllReadyS P md ops Q S s fuel listed a w [] := fun _ h => by cases h
theorem AllReadyS.cons {fuel : Nat} {listed : Array Bool} {a : Act} {w : World} {i : Nat} {o : Oper} {rs : List Nat} (ho : ops[i]? = some o)
    (h : ∀ K' : Act → World → Prop, Go.Shut (∀ a w, ((listed.setIfInBounds i true).getD s false = false → S w) → wpAnyS P md ops Q S s fuel (listed.setIfInBounds i true) a w → K' a w) → if Region.wanted o (yielded ops a.tmps) = true then Oper.wp P o a w K' Q else K' (a.put o.dst undef) w)
    (hs : AllReadyS P md ops Q S s fuel listed a w rs) : AllReadyS P md ops Q S s fuel listed a w (i :: rs) := fun j hj => by
  rcases List.mem_cons.1 hj with rfl | hj
  · exact wpOp_step ho (fun K' hK => h K' (fun a w hS hW => hK a w ⟨hS, hW⟩))
  · exact hs j hj
theorem wpAnyS_ready {rs : List Nat} {fuel : Nat} {listed : Array Bool} {a : Act} {w : World} (hr : Region.ready md ops listed = rs) (hne : rs ≠ [])
    (h : AllReadyS P md ops Q S s fuel listed a w rs) : wpAnyS P md ops Q S s (fuel + 1) listed a w := ⟨fun h0 => absurd (hr ▸ h0) hne, hr ▸ h⟩
theorem wpAnyS_done {listed : Array Bool} {a : Act} {w : World} (hr : Region.ready md ops listed = []) (h : Q .normal a w) : ∀ fuel, wpAnyS P md ops Q S s fuel listed a w
  | 0 => ⟨hr, h⟩
  | _ + 1 => ⟨fun _ => h, by rw [hr]; simp⟩
/-- a drawn region in a round. -/
theorem wpIn_region_roundS {l n : Nat} {id : Nat} {a : Act} {w : World} (S : World → Prop) (s : Nat) (hm : P.follows .mixedOrders = true) (hd : noDefer ops = true) (hQ : ¬ LetsOut Q)
    (hS : S w.drew) (h : S w.drew → wpAnyS P .any ops Q S s ops.size (Array.replicate ops.size false) a w.drew) : (Code.region id ops true).wpIn (Fence.wide.inRound l) n P Q a w :=
  wpIn_region_any hm (wpAnyIn_round (noDefer_spec hd) hQ _ _ _ _ (wpAny_of_S _ _ _ _ (h hS)))
end
end Go.Proofs.YtknojjlfgjkbiaaGreatDoor
/- worlds that have grown. -/
namespace Go.Proofs.YtknojjlfgjkbiaaGreatDoor
open Go.ChangeShapes Go.WideShapes Go.ChangeAt Go.RowKit
/-- a world that has grown, and changed at the blocks of X alone. -/
structure Gr (X : Nat → Prop) (w w' : World) : Prop where
  os : w'.os = w.os
  tape : w'.tape = w.tape
  output : w'.output = w.output
  size : w.heap.size ≤ w'.heap.size
  block : ∀ k, k < w.heap.size → ¬ X k → w'.heap[k]? = w.heap[k]?
theorem Gr.refl (X : Nat → Prop) (w : World) : Gr X w w := ⟨rfl, rfl, rfl, Nat.le_refl _, fun _ _ _ => rfl⟩
theorem Gr.trans {X : Nat → Prop} {a b c : World} (h : Gr X a b) (k : Gr X b c) : Gr X a c :=
  ⟨k.os.trans h.os, k.tape.trans h.tape, k.output.trans h.output, Nat.le_trans h.size k.size, fun i hi hx => (k.block i (Nat.lt_of_lt_of_le hi h.size) hx).trans (h.block i hi hx)⟩
theorem Gr.mono {X Y : Nat → Prop} {a b : World} (h : Gr X a b) (hx : ∀ k, k < a.heap.size → X k → Y k) : Gr Y a b :=
  ⟨h.os, h.tape, h.output, h.size, fun i hi hy => h.block i hi fun x => hy (hx i hi x)⟩
theorem Gr.of_grown {X : Nat → Prop} {a b : World} {row : Option Nat} (h : a.grownBy b row) (hx : ∀ k, row = some k → X k) : Gr X a b :=
  ⟨h.os, h.tape, h.output, h.size, fun i hi hn => h.block i hi fun e => hn (hx i e.symm)⟩
theorem Gr.of_below {X : Nat → Prop} {a b : World} (h : Below a.heap.size a b) : Gr X a b := ⟨h.os, h.tape, h.output, h.size, fun i hi _ => h.block i hi⟩
theorem Gr.alloc (X : Nat → Prop) (w : World) (o : Obj) : Gr X w (w.alloc o) := .of_below ((Below.refl _ w).alloc (Nat.le_refl _) _)
theorem Gr.setCell {X : Nat → Prop} (w : World) (a : Addr) (v : Value) (h : X a.block) : Gr X w (w.setCell a v) :=
  ⟨rfl, rfl, rfl, by simp [World.setCell], fun k _ hx => Below.heap_setCell w a v k (fun e => hx (e ▸ h))⟩
theorem Gr.grown {X : Nat → Prop} {w a b : World} {r : Nat} (h : w.grownBy a (some r)) (k : Gr X a b) (hx : ∀ k, k < w.heap.size → X k → k = r) : w.grownBy b (some r) :=
  ⟨k.os.trans h.os, k.tape.trans h.tape, k.output.trans h.output, Nat.le_trans h.size k.size, fun i hi hn => (k.block i (Nat.lt_of_lt_of_le hi h.size) (fun x => hn (by rw [hx i hi x]))).trans (h.block i hi hn)⟩
theorem Gr.cell {X : Nat → Prop} {a b : World} (h : Gr X a b) {p : Addr} {v : Value} (hv : a.cell? p = some v) (hx : ¬ X p.block) : b.cell? p = some v :=
  (World.cell?_of_block (h.block p.block (World.block_lt_of_cell? a p hv) hx)).trans hv
theorem Gr.blk {X : Nat → Prop} {a b : World} (h : Gr X a b) {g : Nat} {t : TypeId} {cs : Array Value} (hb : Blk a g t cs) (hx : ¬ X g) : Blk b g t cs := (h.block g hb.lt hx).trans hb

end Go.Proofs.YtknojjlfgjkbiaaGreatDoor

namespace Go.Proofs.YtknojjlfgjkbiaaGreatDoor
open Go.ChangeShapes Go.WideShapes Go.ChangeAt Go.RowKit
/-- an append that makes a new row, at a step of a drawn region. -/
theorem step_append_new {P : Program} (w : World) {ops : Array Oper} {o : Oper} {a : Act} {K : Act → World → Prop} {Q : Exit → Act → World → Prop} {E : Prop} (hgd : o.guard = none) (s x : Operand) (t : TypeId)
    (hop : o.op = Op.call { callee := Callee.builtin Builtin.append, args := #[s, x], argTypes := #[t, t] })
    (e : TypeId) (i : TypeInfo) (z : Value) (size bytes : Nat) (h1 : P.underlying t = some (.slice e)) (h2 : P.info? e = some i) (h3 : i.zero = some z) (h4 : i.size = size) (h5 : i.bytes = bytes) (h6 : z.cells.size = size) (h7 : 0 < size)
    (ao : Option Addr) (n cap : Nat) (olds : List Value) (hs : a.eval s = .slice ao n cap) (hnone : ao = none → n = 0 ∧ cap = 0) (hlo : olds.length = n * size) (holds : ∀ b, ao = some b → ∀ j u, olds[j]? = some u → w.cell? (b.add j) = some u)
    (ad : Addr) (m c : Nat) (news : List Value) (hx : a.eval x = .slice (some ad) m c) (hn : news.length = m * size) (hc : ∀ j u, news[j]? = some u → w.cell? (ad.add j) = some u) (h1c : ∀ u ∈ news, u.oneCell' = true)
    (hfull : cap < n + m) (b1 : n + m ≤ maxLen) (b2 : (n + m) * bytes ≤ 140737488355328) (hm : 0 < m)
    (hK : ∀ g cap' w', w'.ownsRow w.heap.size e size (.slice (some ⟨g, 0, none⟩) (n + m) cap') (n + m) (olds ++ news) → w.grownBy w' none → K (a.put o.dst (.slice (some ⟨g, 0, none⟩) (n + m) cap')) w') :
    if Region.wanted o (yielded ops a.tmps) = true then Oper.wp P o a w K Q else E := by
  have hw : Region.wanted o (yielded ops a.tmps) = true := by simp [Region.wanted, hgd]
  rw [if_pos hw]
  cases ao with
  | some b =>
    obtain ⟨v', w', hrun, r1, r2⟩ := run_append_arg_grows (P := P) w t o.type e i z size bytes h1 h2 h3 h4 h5 h6 h7 b n cap olds hlo (holds b rfl) ad m c news hn hc hfull b1 b2
    obtain ⟨g, cap', rfl, _, _⟩ := r1.form (by omega)
    unfold Oper.wp
    simp [execOp, hop, resolve, invoke, builtin, hs, hx, hrun, Result.andThen]
    exact hK _ _ w' r1 r2
  | none =>
    obtain ⟨rfl, rfl⟩ := hnone rfl
    obtain rfl : olds = [] := List.eq_nil_of_length_eq_zero (by simpa using hlo)
    obtain ⟨v', w', hrun, r1, r2, _⟩ := run_append_own (P := P) w w.heap.size t o.type e i z size bytes h1 h2 h3 h4 h5 h6 h7 (.slice none 0 0) 0 [] (World.ownsRow_nil w _ e size) ad m c news hn hc h1c b1 b2 (Nat.le_refl _)
    obtain ⟨g, cap', rfl, _, _⟩ := r1.form (by omega)
    unfold Oper.wp
    simp [execOp, hop, resolve, invoke, builtin, hs, hx, hrun, Result.andThen]
    have hk := hK _ _ w' r1 r2
    rw [Nat.zero_add] at hk
    exact hk
def regAt (id : Nat) : Code → Option Code
  | .region i ops d => if i = id then some (.region i ops d) else none
  | .seq a b => match regAt id a with | some c => some c | none => regAt id b
  | .cond _ a b => match regAt id a with | some c => some c | none => regAt id b
  | .block _ b => regAt id b
  | .loop b => regAt id b
  | .scope b => regAt id b
  | .rangeFunc _ _ a b => match regAt id a with | some c => some c | none => regAt id b
  | _ => none
theorem add_zero_addr (a : Addr) : a.add 0 = a := by
  unfold Addr.add; split <;> simp_all
theorem map_add_zero (A : Option Addr) : A.map (fun x => x.add 0) = A := by
  cases A with
  | none => rfl
  | some a => simp [add_zero_addr]
/-- a drawn region, plain. -/
theorem wp_region_S {P : Program} {id : Nat} {ops : Array Oper} {Q : Exit → Act → World → Prop} {a : Act} {w : World} (S : World → Prop) (s : Nat) (hm : P.follows .mixedOrders = true) (hS : S w.drew)
    (h : S w.drew → wpAnyS P .any ops Q S s ops.size (Array.replicate ops.size false) a w.drew) : (Code.region id ops true).wp P Q a w :=
  wp_region_any hm (wpAny_of_S _ _ _ _ (h hS))

end Go.Proofs.YtknojjlfgjkbiaaGreatDoor
/- Maps that count: how often each key is on a list. -/
namespace Go.Proofs.YtknojjlfgjkbiaaGreatDoor
open Go.ChangeShapes Go.WideShapes Go.ChangeAt Go.RowKit

def cntB {α : Type} [DecidableEq α] (x : α) (l : List α) : Nat := l.count x
section
variable {κ : Type} [DecidableEq κ]
theorem cnt_nil (x : κ) : cntB x [] = 0 := rfl
theorem cnt_push (x y : κ) (l : List κ) : cntB x (l ++ [y]) = cntB x l + if x = y then 1 else 0 := by
  unfold cntB
  rw [List.count_append]
  by_cases e : x = y
  · subst e; simp
  · simp [List.count_cons, e, Ne.symm e, show ¬ y = x from fun h => e h.symm]
theorem cnt_pos (x : κ) (l : List κ) : 0 < cntB x l ↔ x ∈ l := List.count_pos_iff
theorem cnt_le (x : κ) (l : List κ) : cntB x l ≤ l.length := List.count_le_length
theorem cnt_gt (x : κ) (l : List κ) : decide (0 < cntB x l) = memB x l := by
  unfold memB
  rw [decide_eq_decide]
  exact cnt_pos x l
theorem cnt_eq0 (x : κ) (l : List κ) : ((cntB x l : Int) == 0) = !memB x l := by
  rw [Bool.eq_iff_iff, Bool.not_eq_true', beq_iff_eq]
  have := cnt_pos x l
  constructor
  · intro h
    exact memB_false fun hm => by have := this.2 hm; omega
  · intro h
    have h2 : ¬ 0 < cntB x l := fun hp => by rw [memB_iff.2 ((cnt_pos x l).1 hp)] at h; cases h
    omega
/-- block b counts the list's members. -/
def CntMap (M : MKind κ) (w : World) (b : Nat) (l : List κ) : Prop := ∃ n, n ≤ l.length ∧ OnMap M w b n (l.foldl addU []) fun x => (cntB x l : Int)
variable {M : MKind κ} {w w' : World} {b : Nat} {l : List κ}
theorem CntMap.made (w : World) : CntMap M (w.alloc (.map #[] 0)) w.heap.size [] := ⟨0, Nat.le_refl _, OnMap.made w⟩
theorem CntMap.lt (h : CntMap M w b l) : b < w.heap.size := let ⟨_, _, h⟩ := h; h.lt
theorem CntMap.kept {row : Option Nat} (h : CntMap M w b l) (hg : w.grownBy w' row) (hne : some b ≠ row) : CntMap M w' b l := let ⟨n, h1, h2⟩ := h; ⟨n, h1, h2.kept hg hne⟩
theorem CntMap.below {B : Nat} (h : CntMap M w b l) (hb : Below B w w') (hlt : b < B) : CntMap M w' b l := let ⟨n, h1, h2⟩ := h; ⟨n, h1, h2.below hb hlt⟩
theorem CntMap.next (h : CntMap M w b l) (hb : Below w.heap.size w w') : CntMap M w' b l := h.below hb h.lt
theorem CntMap.alloc (h : CntMap M w b l) (o : Obj) : CntMap M (w.alloc o) b l := let ⟨n, h1, h2⟩ := h; ⟨n, h1, h2.alloc o⟩
theorem CntMap.drew (h : CntMap M w b l) : CntMap M w.drew b l := h
theorem CntMap.setCell (h : CntMap M w b l) {a : Addr} (ha : b ≠ a.block) (u : Value) : CntMap M (w.setCell a u) b l := let ⟨n, h1, h2⟩ := h; ⟨n, h1, h2.setCell ha u⟩
theorem CntMap.obj (h : CntMap M w b l) : ∃ es clock, w.heap[b]? = some (.map es clock) := let ⟨_, _, h⟩ := h; h.obj
theorem CntMap.same (h : CntMap M w b l) (e : w'.heap[b]? = w.heap[b]?) : CntMap M w' b l := let ⟨n, h1, h2⟩ := h; ⟨n, h1, h2.same e⟩
theorem CntMap.run_look (h : CntMap M w b l) {y : κ} (hy : M.good y) : (Instr.lookup M.t (.map (some b)) (M.vl y) false).run Tryz.prog w = .ok (.int .i64 (cntB y l)) w := let ⟨_, _, h⟩ := h; h.run_look hy
theorem CntMap.run_len (h : CntMap M w b l) (ty : TypeId) : (Builtin.len_ #[M.t] ty #[.map (some b)]).run Tryz.prog w = .ok (.int .i64 (l.foldl addU []).length) w := let ⟨_, _, h⟩ := h; h.run_len ty
theorem CntMap.push_ {n : Nat} {y : κ} (hn : n ≤ l.length) (h : OnMap M w b (n + 1) (if y ∈ l.foldl addU [] then l.foldl addU [] else l.foldl addU [] ++ [y]) (setF (fun x => (cntB x l : Int)) y ((cntB y l : Int) + 1))) : CntMap M w b (l ++ [y]) := by
  refine ⟨n + 1, by simp; omega, ?_⟩
  rw [List.foldl_append]
  have e : (fun x => (cntB x (l ++ [y]) : Int)) = setF (fun x => (cntB x l : Int)) y ((cntB y l : Int) + 1) := by
    funext x
    rw [cnt_push]
    unfold setF
    by_cases e : x = y
    · subst e; simp
    · simp [e]
  rw [e]
  exact h
/-- 'm[y]++'. -/
theorem CntMap.run_store (h : CntMap M w b l) (hl : l.length < maxLen) {y : κ} (hy : M.good y) :
    ∃ w', (Instr.mapUpdate M.t (.map (some b)) (M.vl y) (.int .i64 ((cntB y l : Int) + 1))).run Tryz.prog w = .ok () w' ∧ CntMap M w' b (l ++ [y]) ∧ w.grownBy w' (some b) := by
  obtain ⟨n, h1, h2⟩ := h
  have hc := cnt_le y l
  have hm : maxLen = 9223372036854775807 := rfl
  obtain ⟨w', hr, r1, r2⟩ := h2.run_store (by omega) hy ((cntB y l : Int) + 1) (WalkArith.wf_i64 (by omega))
  exact ⟨w', hr, CntMap.push_ h1 r1, r2⟩
theorem wpList_cnt {ops : Array Oper} {rest : List Oper} {o : Oper} {a : Act} {Q : Exit → Act → World → Prop} (hg : o.guard = none) (m x : Operand) (hop : o.op = Op.lookup M.t m x false)
    (hm : a.eval m = .map (some b)) (h : CntMap M w b l) (y : κ) (hy : M.good y) (hx : a.eval x = M.vl y) (hK : wpList Tryz.prog ops Q rest (a.put o.dst (.int .i64 (cntB y l))) w) : wpList Tryz.prog ops Q (o :: rest) a w :=
  let ⟨_, _, h⟩ := h; wpList_look hg m x hop hm h y hy hx hK
theorem wpList_push {ops : Array Oper} {rest : List Oper} {o : Oper} {a : Act} {Q : Exit → Act → World → Prop} (hg : o.guard = none) (m x u : Operand) (hop : o.op = Op.mapUpdate M.t m x u)
    (hm : a.eval m = .map (some b)) (h : CntMap M w b l) (hl : l.length < maxLen) (y : κ) (hy : M.good y) (hx : a.eval x = M.vl y) (hu : a.eval u = .int .i64 ((cntB y l : Int) + 1))
    (hK : ∀ w', CntMap M w' b (l ++ [y]) → w.grownBy w' (some b) → wpList Tryz.prog ops Q rest (a.put o.dst undef) w') : wpList Tryz.prog ops Q (o :: rest) a w := by
  refine wpList_plain hg fun K' hK' => ?_
  obtain ⟨w', hr, r1, r2⟩ := h.run_store hl hy
  unfold Oper.wp
  simp [execOp, hop, hm, hx, hu, hr, Result.andThen]
  exact hK' _ _ (hK w' r1 r2)
theorem wpListIn_cnt {F : Fence} {nF : Nat} {ops : Array Oper} {rest : List Oper} {o : Oper} {a : Act} {Q : Exit → Act → World → Prop} (hg : o.guard = none) (m x : Operand) (hop : o.op = Op.lookup M.t m x false)
    (hm : a.eval m = .map (some b)) (h : CntMap M w b l) (y : κ) (hy : M.good y) (hx : a.eval x = M.vl y) (hK : wpListIn F nF Tryz.prog ops Q rest (a.put o.dst (.int .i64 (cntB y l))) w) : wpListIn F nF Tryz.prog ops Q (o :: rest) a w := by
  refine wpListIn_plain hg fun K' hK' => ?_
  unfold Oper.wpIn
  refine ⟨by simp [Oper.about, hop], ?_⟩
  rw [Oper.semAt_plain F _ _ (by rw [hop]; intro c hc'; cases hc')]
  simp [execOp, hop, hm, hx, h.run_look hy, Result.andThen]
  exact hK' _ _ hK
theorem wpListIn_push {F : Fence} {nF : Nat} {ops : Array Oper} {rest : List Oper} {o : Oper} {a : Act} {Q : Exit → Act → World → Prop} (hg : o.guard = none) (m x u : Operand) (hop : o.op = Op.mapUpdate M.t m x u)
    (hm : a.eval m = .map (some b)) (h : CntMap M w b l) (hl : l.length < maxLen) (y : κ) (hy : M.good y) (hx : a.eval x = M.vl y) (hu : a.eval u = .int .i64 ((cntB y l : Int) + 1))
    (hK : ∀ w', CntMap M w' b (l ++ [y]) → w.grownBy w' (some b) → wpListIn F nF Tryz.prog ops Q rest (a.put o.dst undef) w') : wpListIn F nF Tryz.prog ops Q (o :: rest) a w := by
  refine wpListIn_plain hg fun K' hK' => ?_
  obtain ⟨w', hr, r1, r2⟩ := h.run_store hl hy
  unfold Oper.wpIn
  refine ⟨by simp [Oper.about, hop], ?_⟩
  rw [Oper.semAt_plain F _ _ (by rw [hop]; intro c hc'; cases hc')]
  simp [execOp, hop, hm, hx, hu, hr, Result.andThen]
  exact hK' _ _ (hK w' r1 r2)
end
end Go.Proofs.YtknojjlfgjkbiaaGreatDoor
/- slices.IndexFunc and slices.ContainsFunc, at strings, reports and causes. -/
namespace Go.Proofs.YtknojjlfgjkbiaaGreatDoor
open Go.ChangeShapes Go.WideShapes Go.ChangeAt Go.RowKit
theorem idxI_ge {α : Type} (p : α → Bool) (l : List α) : decide (idxI p l ≥ 0) = l.any p := by
  rcases find_cases p l with ⟨k, h, e, _, hp⟩ | ⟨e, hn⟩
  · rw [e, List.any_eq_true.2 ⟨l[k], List.getElem_mem h, hp⟩]; simp
  · rw [e]
    have : l.any p = false := by
      rw [List.any_eq_false]
      intro x hx
      have := List.find?_eq_none.1 hn x hx
      simpa using this
    rw [this]; rfl

def PredStr (g : Nat) (lb : Array Value) (p : ByteArray → Bool) (l : List ByteArray) (w : World) : Prop :=
  ∀ (W : World) (r : ByteArray), r ∈ l → Below w.heap.size w W → Calls Tryz.prog g (#[.string r] ++ lb) W fun e w' => e = .returned (.bool (p r)) ∧ Below W.heap.size W w'
theorem indexStr71 (g : Nat) (lb : Array Value) (p : ByteArray → Bool) (eg : ∀ args w, (callFunc g args).run Tryz.prog w = .ok (.enter g args) w) (l : List ByteArray) (A : Option Addr) (c : Nat) (w : World)
    (hp : PredStr g lb p l w) (h : RdStr w w.heap.size A l) (hl : l.length ≤ 9223372036854775807) :
    Calls Tryz.prog 93 #[.slice A l.length c, .func (.func g) #[] lb] w fun e w' => e = .returned (.int .i64 (idxI p l)) ∧ Below w.heap.size w w' := by
  go_enter Tryz.func93, Tryz.ntmps93
  go_wp2
  go_loopw [5, 8] (fun _ i wr => ∃ k : Nat, k ≤ l.length ∧ i = .int .i64 k ∧ Below w.heap.size w wr ∧ Hid (∀ j (h : j < l.length), j < k → p l[j] = false)) (fun _ i _ => l.length - (intOf i).toNat)
  case atStart => exact ⟨0, Nat.zero_le _, rfl, Below.refl _ _, fun j _ h => absurd h (by omega)⟩
  case round =>
    obtain ⟨k, hk, rfl, hB, hall⟩ := hrel
    by_cases hlt : k < l.length
    · obtain ⟨b, o, rfl, hb, hc⟩ := h.keep hB (by omega)
      have hck := hc k hlt
      have hcall := hp wr l[k] (List.getElem_mem hlt) hB
      clear hc hp h
      have hs := hB.size
      have hfin : p l[k] = true → idxI p l = k := fun hq => idxI_hit hlt hq hall.out
      have hnext : p l[k] = false → ∀ j (h : j < l.length), j < k + 1 → p l[j] = false := fun hq => forall_succ (p := fun r => p r = false) hall.out hq
      have Hfin := Lib.hid hfin
      have Hnext := Lib.hid hnext
      clear hfin hnext hall
      generalize l[k] = r at hck hcall Hfin Hnext
      have c0 := hck
      clear hck
      cases hq : p r with
      | true =>
        have hfin := Lib.hid (Hfin.out hq)
        rw [hq] at hcall
        clear Hfin Hnext hq
        go_wp2_with (go_at_fn g; refine hcall.mono ?_; rintro e w' ⟨rfl, hb'⟩)
        go_ret
        exact ⟨ret_int hfin.out.symm, hB.trans (hb'.mono hs)⟩
      | false =>
        have hnext := Lib.hid (Hnext.out hq)
        rw [hq] at hcall
        clear Hfin Hnext hq
        go_wp2_with (go_at_fn g; refine hcall.mono ?_; rintro e w' ⟨rfl, hb'⟩)
        go_roundw
        case rel => exact ⟨k + 1, by omega, by go_num, hB.trans (hb'.mono hs), hnext⟩
        case measure => simp [intOf]; omega
    · go_wp2
      go_ret
      exact ⟨ret_int (idxI_miss fun j hj => hall.out j hj (by omega)).symm, hB⟩
theorem containsStr48 (g : Nat) (lb : Array Value) (p : ByteArray → Bool) (eg : ∀ args w, (callFunc g args).run Tryz.prog w = .ok (.enter g args) w) (l : List ByteArray) (A : Option Addr) (c : Nat) (w : World)
    (hp : PredStr g lb p l w) (h : RdStr w w.heap.size A l) (hl : l.length ≤ 9223372036854775807) :
    Calls Tryz.prog 64 #[.slice A l.length c, .func (.func g) #[] lb] w fun e w' => e = .returned (.bool (l.any p)) ∧ Below w.heap.size w w' := by
  have hI := indexStr71 g lb p eg l A c w hp h hl
  rw [← idxI_ge]
  generalize idxI p l = q at hI ⊢
  clear h hp
  go_enter Tryz.func64, Tryz.ntmps64
  go_wp2_with fail
  refine hI.mono ?_
  rintro e w1 ⟨rfl, hb1⟩
  clear hI
  go_wp2
  go_ret
  exact ⟨rfl, hb1⟩

def PredRep (g : Nat) (lb : Array Value) (p : Rep → Bool) (l : List Rep) (w : World) : Prop :=
  ∀ (W : World) (r : Rep), r ∈ l → Below w.heap.size w W → Calls Tryz.prog g (#[r.val] ++ lb) W fun e w' => e = .returned (.bool (p r)) ∧ Below W.heap.size W w'
theorem indexRep70 (g : Nat) (lb : Array Value) (p : Rep → Bool) (eg : ∀ args w, (callFunc g args).run Tryz.prog w = .ok (.enter g args) w) (l : List Rep) (A : Option Addr) (c : Nat) (w : World)
    (hp : PredRep g lb p l w) (h : RdRep w w.heap.size A l) (hl : l.length ≤ 9223372036854775807) :
    Calls Tryz.prog 92 #[.slice A l.length c, .func (.func g) #[] lb] w fun e w' => e = .returned (.int .i64 (idxI p l)) ∧ Below w.heap.size w w' := by
  go_enter Tryz.func92, Tryz.ntmps92
  go_wp2
  go_loopw [5, 8] (fun _ i wr => ∃ k : Nat, k ≤ l.length ∧ i = .int .i64 k ∧ Below w.heap.size w wr ∧ Hid (∀ j (h : j < l.length), j < k → p l[j] = false)) (fun _ i _ => l.length - (intOf i).toNat)
  case atStart => exact ⟨0, Nat.zero_le _, rfl, Below.refl _ _, fun j _ h => absurd h (by omega)⟩
  case round =>
    obtain ⟨k, hk, rfl, hB, hall⟩ := hrel
    by_cases hlt : k < l.length
    · obtain ⟨b, o, rfl, hb, hc⟩ := h.keep hB (by omega)
      have hck := hc k hlt
      have hcall := hp wr l[k] (List.getElem_mem hlt) hB
      clear hc hp h
      have hs := hB.size
      have hfin : p l[k] = true → idxI p l = k := fun hq => idxI_hit hlt hq hall.out
      have hnext : p l[k] = false → ∀ j (h : j < l.length), j < k + 1 → p l[j] = false := fun hq => forall_succ (p := fun r => p r = false) hall.out hq
      have Hfin := Lib.hid hfin
      have Hnext := Lib.hid hnext
      clear hfin hnext hall
      generalize l[k] = r at hck hcall Hfin Hnext
      obtain ⟨c0, c1⟩ := hck
      cases hq : p r with
      | true =>
        have hfin := Lib.hid (Hfin.out hq)
        rw [hq] at hcall
        clear Hfin Hnext hq
        go_wp2_with (go_at_fn g; refine hcall.mono ?_; rintro e w' ⟨rfl, hb'⟩)
        go_ret
        exact ⟨ret_int hfin.out.symm, hB.trans (hb'.mono hs)⟩
      | false =>
        have hnext := Lib.hid (Hnext.out hq)
        rw [hq] at hcall
        clear Hfin Hnext hq
        go_wp2_with (go_at_fn g; refine hcall.mono ?_; rintro e w' ⟨rfl, hb'⟩)
        go_roundw
        case rel => exact ⟨k + 1, by omega, by go_num, hB.trans (hb'.mono hs), hnext⟩
        case measure => simp [intOf]; omega
    · go_wp2
      go_ret
      exact ⟨ret_int (idxI_miss fun j hj => hall.out j hj (by omega)).symm, hB⟩
theorem containsRep47 (g : Nat) (lb : Array Value) (p : Rep → Bool) (eg : ∀ args w, (callFunc g args).run Tryz.prog w = .ok (.enter g args) w) (l : List Rep) (A : Option Addr) (c : Nat) (w : World)
    (hp : PredRep g lb p l w) (h : RdRep w w.heap.size A l) (hl : l.length ≤ 9223372036854775807) :
    Calls Tryz.prog 63 #[.slice A l.length c, .func (.func g) #[] lb] w fun e w' => e = .returned (.bool (l.any p)) ∧ Below w.heap.size w w' := by
  have hI := indexRep70 g lb p eg l A c w hp h hl
  rw [← idxI_ge]
  generalize idxI p l = q at hI ⊢
  clear h hp
  go_enter Tryz.func63, Tryz.ntmps63
  go_wp2_with fail
  refine hI.mono ?_
  rintro e w1 ⟨rfl, hb1⟩
  clear hI
  go_wp2
  go_ret
  exact ⟨rfl, hb1⟩

def PredCs (g : Nat) (lb : Array Value) (p : CsV → Bool) (l : List CsV) (w : World) : Prop :=
  ∀ (W : World) (r : CsV), r ∈ l → Below w.heap.size w W → r.rd W W.heap.size → Calls Tryz.prog g (#[r.val] ++ lb) W fun e w' => e = .returned (.bool (p r)) ∧ Below W.heap.size W w'
theorem indexCs56 (g : Nat) (lb : Array Value) (p : CsV → Bool) (eg : ∀ args w, (callFunc g args).run Tryz.prog w = .ok (.enter g args) w) (l : List CsV) (A : Option Addr) (c : Nat) (w : World)
    (hp : PredCs g lb p l w) (h : RdCs w w.heap.size A l) (hl : l.length ≤ 9223372036854775807) :
    Calls Tryz.prog 84 #[.slice A l.length c, .func (.func g) #[] lb] w fun e w' => e = .returned (.int .i64 (idxI p l)) ∧ Below w.heap.size w w' := by
  go_enter Tryz.func84, Tryz.ntmps84
  go_wp2
  go_loopw [5, 8] (fun _ i wr => ∃ k : Nat, k ≤ l.length ∧ i = .int .i64 k ∧ Below w.heap.size w wr ∧ Hid (∀ j (h : j < l.length), j < k → p l[j] = false)) (fun _ i _ => l.length - (intOf i).toNat)
  case atStart => exact ⟨0, Nat.zero_le _, rfl, Below.refl _ _, fun j _ h => absurd h (by omega)⟩
  case round =>
    obtain ⟨k, hk, rfl, hB, hall⟩ := hrel
    by_cases hlt : k < l.length
    · obtain ⟨b, o, rfl, hb, hc⟩ := h.keep hB (by omega)
      have hck := hc k hlt
      have hcall := hp wr l[k] (List.getElem_mem hlt) hB (hck.2.2.2.more (Nat.le_trans (Nat.le_refl _) hB.size))
      clear hc hp h
      have hs := hB.size
      have hfin : p l[k] = true → idxI p l = k := fun hq => idxI_hit hlt hq hall.out
      have hnext : p l[k] = false → ∀ j (h : j < l.length), j < k + 1 → p l[j] = false := fun hq => forall_succ (p := fun r => p r = false) hall.out hq
      have Hfin := Lib.hid hfin
      have Hnext := Lib.hid hnext
      clear hfin hnext hall
      generalize l[k] = r at hck hcall Hfin Hnext
      obtain ⟨c0, c1, c2, _⟩ := hck
      cases hq : p r with
      | true =>
        have hfin := Lib.hid (Hfin.out hq)
        rw [hq] at hcall
        clear Hfin Hnext hq
        go_wp2_with (go_at_fn g; refine hcall.mono ?_; rintro e w' ⟨rfl, hb'⟩)
        go_ret
        exact ⟨ret_int hfin.out.symm, hB.trans (hb'.mono hs)⟩
      | false =>
        have hnext := Lib.hid (Hnext.out hq)
        rw [hq] at hcall
        clear Hfin Hnext hq
        go_wp2_with (go_at_fn g; refine hcall.mono ?_; rintro e w' ⟨rfl, hb'⟩)
        go_roundw
        case rel => exact ⟨k + 1, by omega, by go_num, hB.trans (hb'.mono hs), hnext⟩
        case measure => simp [intOf]; omega
    · go_wp2
      go_ret
      exact ⟨ret_int (idxI_miss fun j hj => hall.out j hj (by omega)).symm, hB⟩
theorem containsCs37 (g : Nat) (lb : Array Value) (p : CsV → Bool) (eg : ∀ args w, (callFunc g args).run Tryz.prog w = .ok (.enter g args) w) (l : List CsV) (A : Option Addr) (c : Nat) (w : World)
    (hp : PredCs g lb p l w) (h : RdCs w w.heap.size A l) (hl : l.length ≤ 9223372036854775807) :
    Calls Tryz.prog 44 #[.slice A l.length c, .func (.func g) #[] lb] w fun e w' => e = .returned (.bool (l.any p)) ∧ Below w.heap.size w w' := by
  have hI := indexCs56 g lb p eg l A c w hp h hl
  rw [← idxI_ge]
  generalize idxI p l = q at hI ⊢
  clear h hp
  go_enter Tryz.func44, Tryz.ntmps44
  go_wp2_with fail
  refine hI.mono ?_
  rintro e w1 ⟨rfl, hb1⟩
  clear hI
  go_wp2
  go_ret
  exact ⟨rfl, hb1⟩
theorem indexCs211 (g : Nat) (lb : Array Value) (p : CsV → Bool) (eg : ∀ args w, (callFunc g args).run Tryz.prog w = .ok (.enter g args) w) (l : List CsV) (A : Option Addr) (c : Nat) (w : World)
    (hp : PredCs g lb p l w) (h : RdCs w w.heap.size A l) (hl : l.length ≤ 9223372036854775807) :
    Calls Tryz.prog 233 #[.slice A l.length c, .func (.func g) #[] lb] w fun e w' => e = .returned (.int .i64 (idxI p l)) ∧ Below w.heap.size w w' := by
  go_enter Tryz.func233, Tryz.ntmps233
  go_wp2
  go_loopw [5, 8] (fun _ i wr => ∃ k : Nat, k ≤ l.length ∧ i = .int .i64 k ∧ Below w.heap.size w wr ∧ Hid (∀ j (h : j < l.length), j < k → p l[j] = false)) (fun _ i _ => l.length - (intOf i).toNat)
  case atStart => exact ⟨0, Nat.zero_le _, rfl, Below.refl _ _, fun j _ h => absurd h (by omega)⟩
  case round =>
    obtain ⟨k, hk, rfl, hB, hall⟩ := hrel
    by_cases hlt : k < l.length
    · obtain ⟨b, o, rfl, hb, hc⟩ := h.keep hB (by omega)
      have hck := hc k hlt
      have hcall := hp wr l[k] (List.getElem_mem hlt) hB (hck.2.2.2.more (Nat.le_trans (Nat.le_refl _) hB.size))
      clear hc hp h
      have hs := hB.size
      have hfin : p l[k] = true → idxI p l = k := fun hq => idxI_hit hlt hq hall.out
      have hnext : p l[k] = false → ∀ j (h : j < l.length), j < k + 1 → p l[j] = false := fun hq => forall_succ (p := fun r => p r = false) hall.out hq
      have Hfin := Lib.hid hfin
      have Hnext := Lib.hid hnext
      clear hfin hnext hall
      generalize l[k] = r at hck hcall Hfin Hnext
      obtain ⟨c0, c1, c2, _⟩ := hck
      cases hq : p r with
      | true =>
        have hfin := Lib.hid (Hfin.out hq)
        rw [hq] at hcall
        clear Hfin Hnext hq
        go_wp2_with (go_at_fn g; refine hcall.mono ?_; rintro e w' ⟨rfl, hb'⟩)
        go_ret
        exact ⟨ret_int hfin.out.symm, hB.trans (hb'.mono hs)⟩
      | false =>
        have hnext := Lib.hid (Hnext.out hq)
        rw [hq] at hcall
        clear Hfin Hnext hq
        go_wp2_with (go_at_fn g; refine hcall.mono ?_; rintro e w' ⟨rfl, hb'⟩)
        go_roundw
        case rel => exact ⟨k + 1, by omega, by go_num, hB.trans (hb'.mono hs), hnext⟩
        case measure => simp [intOf]; omega
    · go_wp2
      go_ret
      exact ⟨ret_int (idxI_miss fun j hj => hall.out j hj (by omega)).symm, hB⟩
theorem containsCs126 (g : Nat) (lb : Array Value) (p : CsV → Bool) (eg : ∀ args w, (callFunc g args).run Tryz.prog w = .ok (.enter g args) w) (l : List CsV) (A : Option Addr) (c : Nat) (w : World)
    (hp : PredCs g lb p l w) (h : RdCs w w.heap.size A l) (hl : l.length ≤ 9223372036854775807) :
    Calls Tryz.prog 148 #[.slice A l.length c, .func (.func g) #[] lb] w fun e w' => e = .returned (.bool (l.any p)) ∧ Below w.heap.size w w' := by
  have hI := indexCs211 g lb p eg l A c w hp h hl
  rw [← idxI_ge]
  generalize idxI p l = q at hI ⊢
  clear h hp
  go_enter Tryz.func148, Tryz.ntmps148
  go_wp2_with fail
  refine hI.mono ?_
  rintro e w1 ⟨rfl, hb1⟩
  clear hI
  go_wp2
  go_ret
  exact ⟨rfl, hb1⟩
end Go.Proofs.YtknojjlfgjkbiaaGreatDoor
