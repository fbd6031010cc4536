/- A certificate: right, one. -/
import Derived.Test.YtlmbffnmjfbglabU4
import Derived.Test.YtlmbffnmjfbglabQ0
set_option linter.unusedSimpArgs false
set_option linter.unusedVariables false
namespace Go.Proofs.Ytlmbffnmjfbglab
open Go.ChangeShapes Go.WideShapes Go.ChangeAt Go.RowKit

/-- all offsets from f to t conflict with partition j. -/
def allP (ps : List Part) (os : List Int) (j : Nat) (f t : Int) : Bool := (List.range (t - f + 1).toNat).all fun i => clashP ps os j (f + i)
theorem allP_no {ps : List Part} {os : List Int} {j : Nat} {f t x : Int} (h1 : f ≤ x) (h2 : x ≤ t) (h : clashP ps os j x = false) : allP ps os j f t = false := by
  unfold allP
  rw [List.all_eq_false]
  refine ⟨(x - f).toNat, by simp; omega, ?_⟩
  rw [show f + ((x - f).toNat : Int) = x by omega, h]
  simp
theorem allP_yes {ps : List Part} {os : List Int} {j : Nat} {f t : Int} (h : ∀ x, f ≤ x → x ≤ t → clashP ps os j x = true) : allP ps os j f t = true := by
  unfold allP
  rw [List.all_eq_true]
  intro i hi
  simp at hi
  exact h _ (by omega) (by omega)
mutual
def oneP (ps : List Part) (os : List Int) : Claim → Bool
  | .mk f t w sub => if w = -1 then decide (f = t) && (decide (os.length + 1 < ps.length) && goP ps (os ++ [f]) 0 sub)
      else if w < 0 ∨ (os.length : Int) ≤ w ∨ 0 < sub.length then false else allP ps os w.toNat f t
def goP (ps : List Part) (os : List Int) (next : Int) : List Claim → Bool
  | [] => decide (next = lastP ps os.length + 1)
  | x :: r => decide (x.frm = next) && (decide (x.frm ≤ x.to) && (decide (x.to ≤ lastP ps os.length) && (oneP ps os x && goP ps os (x.to + 1) r)))
end
/-- claims about the next partition are right. -/
def rightP (ps : List Part) (os : List Int) (l : List Claim) : Bool := decide (os.length < ps.length) && goP ps os 0 l
/-- a search whose offsets are its own row; whatever lies below B0 is old. -/
structure SO (W : World) (Bs : Nat) (name : ByteArray) (mem F : Int) (A : Option Addr) (ps : List Part) (c B0 : Nat) (V : Value) (os : List Int) : Prop where
  blk : Blk W Bs 67 #[.string name, .int .i64 mem, .int .i64 F, .slice A ps.length c, V, .int .i64 0]
  pt : RdPart W B0 A ps
  own : W.ownsRow B0 3 1 V os.length (os.map (Value.int .i64))
  le : B0 ≤ Bs
  ne : V.ownBlock ≠ some Bs
/-- what the search's steps change: the object, and the offsets' own row. -/
structure RG (Bs : Nat) (W : World) (V : Value) (W' : World) (V' : Value) : Prop where
  gr : Gr (fun b => b = Bs ∨ V.ownBlock = some b) W W'
  ob : V'.ownBlock = V.ownBlock ∨ ∃ g, V'.ownBlock = some g ∧ W.heap.size ≤ g
theorem RG.trans {Bs : Nat} {W W1 W2 : World} {V V1 V2 : Value} (h : RG Bs W V W1 V1) (k : RG Bs W1 V1 W2 V2) : RG Bs W V W2 V2 := by
  refine ⟨⟨k.gr.os.trans h.gr.os, k.gr.tape.trans h.gr.tape, k.gr.output.trans h.gr.output, Nat.le_trans h.gr.size k.gr.size, fun b hb hx => (k.gr.block b (Nat.lt_of_lt_of_le hb h.gr.size) (fun x => ?_)).trans (h.gr.block b hb hx)⟩, ?_⟩
  · rcases x with x | x
    · exact hx (.inl x)
    · rcases h.ob with e | ⟨g, e, hg⟩
      · exact hx (.inr (e ▸ x))
      · rw [e] at x; injection x with x; omega
  · rcases k.ob with e | ⟨g, e, hg⟩
    · rcases h.ob with e' | ⟨g, e', hg⟩
      · exact .inl (e.trans e')
      · exact .inr ⟨g, e.trans e', hg⟩
    · exact .inr ⟨g, e, Nat.le_trans h.gr.size hg⟩
theorem RG.of_below {Bs : Nat} {W W' : World} {V : Value} (h : Below W.heap.size W W') : RG Bs W V W' V := ⟨.of_below h, .inl rfl⟩
theorem grown_set (W : World) (a : Addr) (v : Value) : W.grownBy (W.setCell a v) (some a.block) := ⟨rfl, rfl, rfl, by simp [World.setCell], fun k _ hk => Below.heap_setCell W a v k (fun e => hk (by rw [e]))⟩
section
variable {W W' w2 : World} {Bs : Nat} {name : ByteArray} {mem F : Int} {A : Option Addr} {ps : List Part} {c B0 : Nat} {V : Value} {os : List Int} {g cap : Nat}
theorem SO.form (h : SO W Bs name mem F A ps c B0 V os) : ∃ Ao co, V = .slice Ao os.length co ∧ SB W Bs name mem F A ps c Ao os co 0 := by
  have hb0 : B0 ≤ W.heap.size := Nat.le_trans h.le (Nat.le_of_lt h.blk.lt)
  obtain ⟨Ao, co, rfl, hr⟩ := RdInt.of_own rfl h.own
  have hcap : os.length ≤ co := by
    rcases h.own.2 with ⟨e, h0⟩ | ⟨g, cap, cur, e, _, _, hc, _⟩
    · omega
    · injection e with _ _ e
      subst e; exact hc
  refine ⟨Ao, co, rfl, h.blk, fun hn => ?_, hr, fun b o e _ x => h.ne (by rw [e, x]; rfl), hcap⟩
  obtain ⟨b, o, e, hb, hc⟩ := h.pt hn
  exact ⟨b, o, e, by omega, hc⟩
theorem SO.next (h : SO W Bs name mem F A ps c B0 V os) (hb : Below W.heap.size W W') : SO W' Bs name mem F A ps c B0 V os := by
  have hb0 : B0 ≤ W.heap.size := Nat.le_trans h.le (Nat.le_of_lt h.blk.lt)
  refine ⟨h.blk.below hb h.blk.lt, fun hn => ?_, h.own.kept (below_grown (row := none) hb) (by cases V.ownBlock <;> simp), h.le, h.ne⟩
  obtain ⟨b, o, e, hlt, hc⟩ := h.pt hn
  exact ⟨b, o, e, hlt, fun i hi j v hv => (hb.cell (p := ⟨b, o + i * 10 + j, none⟩) (by simp; omega)).trans (hc i hi j v hv)⟩
theorem SO.old {V' : Value} (h : SO W Bs name mem F A ps c B0 V os) (hr : RG Bs W V W' V') : Below B0 W W' :=
  ⟨hr.gr.os, hr.gr.tape, hr.gr.output, hr.gr.size, fun k hk => hr.gr.block k (by have := h.le; have := h.blk.lt; omega) (fun x => by
    rcases x with x | x
    · have := h.le; omega
    · have := (h.own.lt k x).1; omega)⟩
/-- an offset appended. -/
theorem SO.push (h : SO W Bs name mem F A ps c B0 V os) (f : Int) (hgr : W.grownBy w2 V.ownBlock) (hown : w2.ownsRow B0 3 1 (.slice (some ⟨g, 0, none⟩) (os.length + 1) cap) (os.length + 1) (os.map (Value.int .i64) ++ [.int .i64 f])) (hg : V.ownBlock = some g ∨ g = W.heap.size) :
    SO (w2.setCell ⟨Bs, 4, none⟩ (.slice (some ⟨g, 0, none⟩) (os.length + 1) cap)) Bs name mem F A ps c B0 (.slice (some ⟨g, 0, none⟩) (os.length + 1) cap) (os ++ [f]) ∧ RG Bs W V (w2.setCell ⟨Bs, 4, none⟩ (.slice (some ⟨g, 0, none⟩) (os.length + 1) cap)) (.slice (some ⟨g, 0, none⟩) (os.length + 1) cap) := by
  have hblt := h.blk.lt
  have hle := h.le
  have hob : ∀ k, V.ownBlock = some k → B0 ≤ k := fun k hk => (h.own.lt k hk).1
  have hgne : g ≠ Bs := fun e => by
    rcases hg with hg | hg
    · exact h.ne (by rw [hg, e])
    · omega
  have hBl : Below B0 W (w2.setCell ⟨Bs, 4, none⟩ (.slice (some ⟨g, 0, none⟩) (os.length + 1) cap)) := ⟨hgr.os, hgr.tape, hgr.output, by simpa [World.setCell] using hgr.size, fun k hk => (Below.heap_setCell _ _ _ _ (by simp; omega)).trans (hgr.block k (by omega) (fun e => by have := hob k e.symm; omega))⟩
  have hRG : RG Bs W V (w2.setCell ⟨Bs, 4, none⟩ (.slice (some ⟨g, 0, none⟩) (os.length + 1) cap)) (.slice (some ⟨g, 0, none⟩) (os.length + 1) cap) := ⟨(Gr.of_grown hgr fun k e => .inr e).trans (Gr.setCell _ _ _ (.inl rfl)), by
    rcases hg with hg | hg
    · exact .inl (by rw [hg]; rfl)
    · exact .inr ⟨g, rfl, by omega⟩⟩
  refine ⟨⟨?_, fun hn => ?_, ?_, hle, by simp [Value.ownBlock, hgne]⟩, hRG⟩
  · exact (h.blk.grown hgr (fun e => h.ne e.symm)).set_ 4 _
  · obtain ⟨b, o, e, hlt, hc⟩ := h.pt hn
    exact ⟨b, o, e, hlt, fun i hi j v hv => (hBl.cell (p := ⟨b, o + i * 10 + j, none⟩) hlt).trans (hc i hi j v hv)⟩
  · have hk := hown.kept (grown_set w2 ⟨Bs, 4, none⟩ (.slice (some ⟨g, 0, none⟩) (os.length + 1) cap)) (.inr (by simp [Value.ownBlock, hgne]))
    simpa using hk
/-- the last offset cut off. -/
theorem SO.cut {f : Int} {Ao : Option Addr} {co : Nat} (h : SO W Bs name mem F A ps c B0 (.slice Ao (os.length + 1) co) (os ++ [f])) :
    SO (W.setCell ⟨Bs, 4, none⟩ (.slice Ao os.length co)) Bs name mem F A ps c B0 (.slice Ao os.length co) os ∧ RG Bs W (.slice Ao (os.length + 1) co) (W.setCell ⟨Bs, 4, none⟩ (.slice Ao os.length co)) (.slice Ao os.length co) := by
  have hle := h.le
  have hBl : Below B0 W (W.setCell ⟨Bs, 4, none⟩ (.slice Ao os.length co)) := ⟨rfl, rfl, rfl, by simp [World.setCell], fun k hk => Below.heap_setCell _ _ _ _ (by simp; omega)⟩
  have hne : (Value.slice Ao os.length co).ownBlock ≠ some Bs := by
    have := h.ne
    cases Ao with
    | none => simp [Value.ownBlock]
    | some a => simpa [Value.ownBlock] using this
  refine ⟨⟨h.blk.set_ 4 _, fun hn => ?_, ?_, hle, hne⟩, ⟨Gr.setCell _ _ _ (.inl rfl), .inl (by cases Ao <;> rfl)⟩⟩
  · obtain ⟨b, o, e, hlt, hc⟩ := h.pt hn
    exact ⟨b, o, e, hlt, fun i hi j v hv => (hBl.cell (p := ⟨b, o + i * 10 + j, none⟩) hlt).trans (hc i hi j v hv)⟩
  · have h0 : W.ownsRow B0 3 1 (.slice Ao os.length co) os.length (os.map (Value.int .i64)) := by
      refine ⟨by simp, .inr ?_⟩
      rcases h.own.2 with ⟨e, _⟩ | ⟨g, cap, cur, e, hb, hh, hc, hm, hs, ht⟩
      · cases e
      · injection e with e1 _ e2
        subst e1 e2
        refine ⟨g, co, cur, rfl, hb, hh, by simp at hc; omega, hm, hs, ?_⟩
        have := congrArg (List.take os.length) ht
        simpa [List.take_take] using this
    exact h0.kept (grown_set W ⟨Bs, 4, none⟩ (.slice Ao os.length co)) (.inr hne)
end
/-- what right and one do. -/
def RPost (W : World) (V : Value) (Bs : Nat) (name : ByteArray) (mem F : Int) (A : Option Addr) (ps : List Part) (c B0 : Nat) (os : List Int) (b : Bool) (e : Ending) (W' : World) : Prop := e = .returned (.bool b) ∧ ∃ V', RG Bs W V W' V' ∧ SO W' Bs name mem F A ps c B0 V' os

section
attribute [-go_sem] run_sliceAt_slice
set_option maxRecDepth 100000 in
set_option maxHeartbeats 4000000 in
theorem one_c {W : World} {Bs : Nat} {name : ByteArray} {mem F : Int} {A : Option Addr} {ps : List Part} {c B0 : Nat} {V : Value} {os : List Int} (hPT : PT ps) (f t wi : Int) (sub : List Claim) (As : Option Addr) (cs : Nat)
    (ih : ∀ W V os', SO W Bs name mem F A ps c B0 V os' → os'.length ≤ ps.length → RdCls W (fun b => b < B0) As sub → Calls Try.prog 39 #[.pointer (some ⟨Bs, 0, none⟩), .slice As sub.length cs] W (RPost W V Bs name mem F A ps c B0 os' (rightP ps os' sub)))
    (h : SO W Bs name mem F A ps c B0 V os) (hn : os.length < ps.length) (hf : 0 ≤ f) (ht : t ≤ 2000) (hft : f ≤ t) (hsub : sub.length ≤ 9223372036854775807) (hrd : RdCls W (fun b => b < B0) As sub) :
    Calls Try.prog 64 #[.pointer (some ⟨Bs, 0, none⟩), .agg #[.int .i64 f, .int .i64 t, .int .i64 wi, .slice As sub.length cs]] W (RPost W V Bs name mem F A ps c B0 os (oneP ps os (.mk f t wi sub))) := by
  obtain ⟨i0, hi0, hz0, hz1, hz2⟩ := info_parts info3
  have hB : Below W.heap.size W (W.alloc (.cells #[.int .i64 f, .int .i64 t, .int .i64 wi, .slice As sub.length cs] 35)) := (Below.refl _ W).alloc (Nat.le_refl _) _
  have hb0 := Blk.new W 35 #[.int .i64 f, .int .i64 t, .int .i64 wi, .slice As sub.length cs]
  have hle : B0 ≤ W.heap.size := Nat.le_trans h.le (Nat.le_of_lt h.blk.lt)
  have h1 := h.next hB
  obtain ⟨Ao, co, rfl, hSB⟩ := h1.form
  obtain ⟨_, _, _, _, q4, _⟩ := hSB.cells
  have hrd1 : RdCls (W.alloc (.cells #[.int .i64 f, .int .i64 t, .int .i64 wi, .slice As sub.length cs] 35)) (fun b => b < B0) As sub := hrd.keep fun b hb => ⟨fun _ => World.cell?_of_block (hB.block b (by omega)), hb⟩
  have hBsl := h.blk.lt
  have hVlt : ∀ b, (Value.slice Ao os.length co).ownBlock = some b → b < W.heap.size := fun b hb => (h.own.lt b hb).2
  clear h hrd
  by_cases hwi : wi = -1
  · have hd1 : (wi == (-1 : Int)) = true := by simp [hwi]
    have Hv := Lib.hid (show oneP ps os (.mk f t wi sub) = (decide (f = t) && rightP ps (os ++ [f]) sub) by
      rw [oneP, if_pos hwi]; simp [rightP])
    clear hwi
    go_enter Try.func64, Try.ntmps64
    go_wp2_with fail
    have q5 : (W.alloc (.cells #[.int .i64 f, .int .i64 t, .int .i64 wi, .slice As sub.length cs] 35)).cell? ⟨W.heap.size, 0, none⟩ = some (.int .i64 f) := hb0.cell 0
    generalize W.alloc (.cells #[.int .i64 f, .int .i64 t, .int .i64 wi, .slice As sub.length cs] 35) = W1 at *
    refine wp_region_S (fun W' => W'.cell? ⟨Bs, 4, none⟩ = some (.slice Ao os.length co) ∧ W'.cell? ⟨W.heap.size, 0, none⟩ = some (.int .i64 f)) 11 (by kernel_rfl) ⟨q4, q5⟩ (fun hHeld => ?_)
    replace hB := hB.drew
    replace hb0 := hb0.drew
    replace h1 := h1.next (Below.refl _ W1).drew
    replace hrd1 : RdCls W1.drew (fun b => b < B0) As sub := RdCls.keep (w := W1) (w' := W1.drew) (fun b hb => ⟨fun _ => rfl, hb⟩) hrd1
    clear q4 q5 hSB
    generalize W1.drew = W4 at *
    refine wpAnyS_take (i := 0) (v := ?_) rfl (by kernel_rfl) (by kernel_rfl) (by kernel_rfl) (by kernel_rfl) (fun _ _ _ h => h) (Or.inl ⟨by rfl, ?_⟩) hHeld ?_
    rotate_left
    · intro w hSw
      obtain ⟨hs0, hs1⟩ := hSw
      go_simp
      first | done | with_reducible rfl
    simp only [Act.put, List.setIfInBounds_toArray, List.set_cons_zero, List.set_cons_succ]
    refine wpAnyS_take (i := 1) (v := ?_) rfl (by kernel_rfl) (by kernel_rfl) (by kernel_rfl) (by kernel_rfl) (fun _ _ _ h => h) (Or.inl ⟨by rfl, ?_⟩) hHeld ?_
    rotate_left
    · intro w hSw
      obtain ⟨hs0, hs1⟩ := hSw
      go_simp
      first | done | with_reducible rfl
    simp only [Act.put, List.setIfInBounds_toArray, List.set_cons_zero, List.set_cons_succ]
    refine wpAnyS_take (i := 2) (v := ?_) rfl (by kernel_rfl) (by kernel_rfl) (by kernel_rfl) (by kernel_rfl) (fun _ _ _ h => h) (Or.inl ⟨by rfl, ?_⟩) hHeld ?_
    rotate_left
    · intro w hSw
      obtain ⟨hs0, hs1⟩ := hSw
      go_simp
      first | done | with_reducible rfl
    simp only [Act.put, List.setIfInBounds_toArray, List.set_cons_zero, List.set_cons_succ]
    refine wpAnyS_take (i := 3) (v := ?_) rfl (by kernel_rfl) (by kernel_rfl) (by kernel_rfl) (by kernel_rfl) (fun _ _ _ h => h) (Or.inl ⟨by rfl, ?_⟩) hHeld ?_
    rotate_left
    · intro w hSw
      obtain ⟨hs0, hs1⟩ := hSw
      go_simp
      first | done | with_reducible rfl
    simp only [Act.put, List.setIfInBounds_toArray, List.set_cons_zero, List.set_cons_succ]
    refine wpAnyS_take (i := 4) (v := ?_) rfl (by kernel_rfl) (by kernel_rfl) (by kernel_rfl) (by kernel_rfl) (fun _ _ _ h => h) (Or.inl ⟨by rfl, ?_⟩) hHeld ?_
    rotate_left
    · intro w hSw
      obtain ⟨hs0, hs1⟩ := hSw
      go_simp
      first | done | with_reducible rfl
    simp only [Act.put, List.setIfInBounds_toArray, List.set_cons_zero, List.set_cons_succ]
    refine wpAnyS_take (i := 5) (v := ?_) rfl (by kernel_rfl) (by kernel_rfl) (by kernel_rfl) (by kernel_rfl) (fun _ _ _ h => h) (Or.inl ⟨by rfl, ?_⟩) hHeld ?_
    rotate_left
    · intro w hSw
      obtain ⟨hs0, hs1⟩ := hSw
      go_simp
      first | done | with_reducible rfl
    simp only [Act.put, List.setIfInBounds_toArray, List.set_cons_zero, List.set_cons_succ]
    refine wpAnyS_take (i := 6) (v := ?_) rfl (by kernel_rfl) (by kernel_rfl) (by kernel_rfl) (by kernel_rfl) (fun _ _ _ h => h) (Or.inl ⟨by rfl, ?_⟩) hHeld ?_
    rotate_left
    · intro w hSw
      obtain ⟨hs0, hs1⟩ := hSw
      go_simp
      first | done | with_reducible rfl
    simp only [Act.put, List.setIfInBounds_toArray, List.set_cons_zero, List.set_cons_succ]
    refine wpAnyS_ready (rs := [7]) (by kernel_rfl) (by simp) ?_
    refine AllReadyS.cons rfl (fun K hK => ?_) AllReadyS.nil
    go_simp
    have hz4 : B0 ≤ W4.heap.size := by have := hb0.lt; omega
    have hB6 : Below W4.heap.size W4 (W4.alloc (.cells #[.int .i64 f] 3)) := (Below.refl _ W4).alloc (Nat.le_refl _) _
    have hG0 : Blk (W4.alloc (.cells #[.int .i64 f] 3)) W4.heap.size 3 _ := Blk.new W4 3 #[.int .i64 f]
    have hs6 : (W4.alloc (.cells #[.int .i64 f] 3)).cell? ⟨Bs, 4, none⟩ = some (.slice Ao os.length co) ∧ (W4.alloc (.cells #[.int .i64 f] 3)).cell? ⟨W.heap.size, 0, none⟩ = some (.int .i64 f) := ⟨(h1.next hB6).blk.cell 4, (hb0.alloc _).cell 0⟩
    refine hK.out _ _ (fun _ => hs6) ?_
    replace h1 := h1.next hB6
    replace hB := hB.trans (hB6.mono hB.size)
    replace hb0 := hb0.alloc (.cells #[.int .i64 f] 3)
    replace hrd1 : RdCls (W4.alloc (.cells #[.int .i64 f] 3)) (fun b => b < B0) As sub := hrd1.keep fun b hb => ⟨fun _ => World.cell?_of_block (hB6.block b (by omega)), hb⟩
    clear hK hHeld hB6 hz4
    generalize hGz : W4.heap.size = G0 at *
    clear hGz
    generalize W4.alloc (.cells #[.int .i64 f] 3) = W6 at *
    try simp only [Act.put, List.setIfInBounds_toArray, List.set_cons_zero, List.set_cons_succ]
    refine wpAnyS_ready (rs := [8]) (by kernel_rfl) (by simp) ?_
    refine AllReadyS.cons rfl (fun K hK => ?_) AllReadyS.nil
    refine step_append_lies _ (by rfl) (.tmp 20) (.tmp 23) 28 (by rfl) B0 3 i0 _ 1 8 Try.underlying28 hi0 hz0 hz1 hz2 (by rfl) (by decide) (.slice Ao os.length co) os.length _ (by rfl) h1.own ⟨G0, 0, none⟩ 1 1 [.int .i64 f] (by rfl) (by rfl) (World.news_of_block (cs := #[.int .i64 f]) (t := 3) (fr := (0, 0)) hG0) (by simp [Value.oneCell']) (by omega) (by have := hPT.1; unfold maxLen; omega) (by have := hPT.1; omega) (by have := hB.size; omega) _ rfl ?_
    intro g cap w2 hown2 hgrow hg hgl
    have hs7 : w2.cell? ⟨Bs, 4, none⟩ = some (.slice Ao os.length co) ∧ w2.cell? ⟨W.heap.size, 0, none⟩ = some (.int .i64 f) := ⟨(World.cell?_of_block (hgrow.block Bs h1.blk.lt (fun e => h1.ne e.symm))).trans hs6.1, (World.cell?_of_block (hgrow.block W.heap.size hb0.lt (fun e => by have := hVlt _ e.symm; omega))).trans hs6.2⟩
    have hpush := h1.push f hgrow hown2 hg
    have hf4 : w2.frozen? ⟨Bs, 4, none⟩ = false := (h1.blk.grown hgrow (fun e => h1.ne e.symm)).frozen 4
    have hb9 : Blk (w2.setCell ⟨Bs, 4, none⟩ (.slice (some ⟨g, 0, none⟩) (os.length + 1) cap)) W.heap.size 35 _ := (hb0.grown hgrow (fun e => by have := hVlt _ e.symm; omega)).far (p := ⟨Bs, 4, none⟩) (by simp; omega) _
    have hb6B : RG Bs W (.slice Ao os.length co) W6 (.slice Ao os.length co) := .of_below hB
    have hold := h1.old hpush.2
    refine hK.out _ _ (fun _ => hs7) ?_
    have HP := Lib.hid hpush
    clear hK hs6 hown2 hgrow hpush h1 hb0 hB hG0 hg
    try simp only [Act.put, List.setIfInBounds_toArray, List.set_cons_zero, List.set_cons_succ]
    refine wpAnyS_take (i := 9) (v := ?_) rfl (by kernel_rfl) (by kernel_rfl) (by kernel_rfl) (by kernel_rfl) (fun _ _ _ h => h) (Or.inl ⟨by rfl, ?_⟩) hs7 ?_
    rotate_left
    · intro w hSw
      obtain ⟨hs0, hs1⟩ := hSw
      go_simp
      first | done | with_reducible rfl
    simp only [Act.put, List.setIfInBounds_toArray, List.set_cons_zero, List.set_cons_succ]
    refine wpAnyS_take (i := 10) (v := ?_) rfl (by kernel_rfl) (by kernel_rfl) (by kernel_rfl) (by kernel_rfl) (fun _ _ _ h => h) (Or.inl ⟨by rfl, ?_⟩) hs7 ?_
    rotate_left
    · intro w hSw
      obtain ⟨hs0, hs1⟩ := hSw
      go_simp
      first | done | with_reducible rfl
    simp only [Act.put, List.setIfInBounds_toArray, List.set_cons_zero, List.set_cons_succ]
    refine wpAnyS_ready (rs := [11]) (by kernel_rfl) (by simp) ?_
    obtain ⟨hq4, _⟩ := hs7
    refine AllReadyS.cons rfl (fun K hK => ?_) AllReadyS.nil
    go_simp
    refine hK.out _ _ (fun h => absurd h (by decide)) ?_
    refine wpAnyS_done (by kernel_rfl) ?_ _
    obtain ⟨hS9, hBl9⟩ := HP.out
    have hBW9 := hb6B.trans hBl9
    have hrd9 : RdCls (w2.setCell ⟨Bs, 4, none⟩ (.slice (some ⟨g, 0, none⟩) (os.length + 1) cap)) (fun b => b < B0) As sub := hrd1.keep fun b hb => ⟨fun _ => World.cell?_of_block (hold.block b hb), hb⟩
    clear hK HP hq4 hf4 hb6B hBl9 hrd1 hold
    generalize w2.setCell ⟨Bs, 4, none⟩ (.slice (some ⟨g, 0, none⟩) (os.length + 1) cap) = W9 at *
    have r0 : W9.cell? ⟨W.heap.size, 0, none⟩ = some (.int .i64 f) := hb9.cell 0
    have r1 : W9.cell? ⟨W.heap.size, 1, none⟩ = some (.int .i64 t) := hb9.cell 1
    have r3 : W9.cell? ⟨W.heap.size, 3, none⟩ = some (.slice As sub.length cs) := hb9.cell 3
    by_cases hft2 : f = t
    · have hd2 : (f == t) = true := by simp [hft2]
      have Hv2 := Lib.hid (show oneP ps os (.mk f t wi sub) = rightP ps (os ++ [f]) sub by rw [Hv.out, decide_eq_true hft2]; rfl)
      have hcall := ih W9 _ (os ++ [f]) hS9 (by simp; omega) hrd9
      generalize rightP ps (os ++ [f]) sub = q at *
      clear hft2 hft hb9 hS9 hrd9 ih Hv
      go_wp2_with fail
      refine hcall.mono ?_
      rintro e W10 ⟨rfl, V', hBl, hS10⟩
      obtain ⟨A5, c5, rfl, hSB5⟩ := hS10.form
      have hcap5 := hSB5.cap
      simp only [List.length_append, List.length_cons, List.length_nil, Nat.zero_add] at hS10 hcap5 hBl
      have hq : W10.cell? ⟨Bs, 4, none⟩ = some (.slice A5 (os.length + 1) c5) := hS10.blk.cell 4
      have hfz := hS10.blk.frozen 4
      have hsl := fun W => slice_to A5 (os.length + 1) os.length c5 (by omega) W
      obtain ⟨hS11, hBl11⟩ := hS10.cut
      have hBf := (hBW9.trans hBl).trans hBl11
      clear hcall hSB5 hS10 hBl hBl11 hBW9 r0 r1 r3
      go_wp2_with fail
      go_ret
      exact ⟨ret_bool Hv2.out.symm, _, hBf, hS11⟩
    · have hd2 : (f == t) = false := by simp [hft2]
      have Hv2 := Lib.hid (show oneP ps os (.mk f t wi sub) = false by rw [Hv.out, decide_eq_false hft2]; rfl)
      have hq : W9.cell? ⟨Bs, 4, none⟩ = some (.slice (some ⟨g, 0, none⟩) (os.length + 1) cap) := hS9.blk.cell 4
      have hfz := hS9.blk.frozen 4
      have hcap5 : os.length + 1 ≤ cap := by
        obtain ⟨A5, c5, e, hSB5⟩ := hS9.form
        injection e with _ _ e
        subst e
        simpa using hSB5.cap
      have hsl := fun W => slice_to (some ⟨g, 0, none⟩) (os.length + 1) os.length cap (by omega) W
      obtain ⟨hS11, hBl11⟩ := hS9.cut
      have hBf := hBW9.trans hBl11
      clear hft2 hft hb9 hS9 hrd9 ih Hv hBl11 hBW9
      go_wp2_with fail
      go_ret
      exact ⟨ret_bool Hv2.out.symm, _, hBf, hS11⟩
  · have hd1 : (wi == (-1 : Int)) = false := by simp [hwi]
    obtain ⟨W1, hW1⟩ : ∃ W1, W1 = W.alloc (.cells #[.int .i64 f, .int .i64 t, .int .i64 wi, .slice As sub.length cs] 35) := ⟨_, rfl⟩
    rw [← hW1] at hB hb0 h1 hSB
    have hBB : ∀ W', Below W1.heap.size W1 W' → RPost W (.slice Ao os.length co) Bs name mem F A ps c B0 os true (.returned (.bool true)) W' := fun W' hb =>
      ⟨rfl, _, .of_below (hB.trans (hb.mono hB.size)), h1.next hb⟩
    have HBB := Lib.hid hBB
    have H1 := Lib.hid h1
    have HSB := Lib.hid hSB
    have Hwi := Lib.hid hwi
    clear hBB h1 hB hrd1 hVlt ih hSB hwi
    by_cases hw0 : wi < 0
    · have hd2 : decide (wi < 0) = true := decide_eq_true hw0
      have Hv := Lib.hid (show oneP ps os (.mk f t wi sub) = false by rw [oneP, if_neg Hwi.out, if_pos (.inl hw0)])
      go_enter Try.func64, Try.ntmps64
      go_wp2_with fail
      go_ret
      exact ⟨ret_bool Hv.out.symm, hW1 ▸ (HBB.out _ (Below.refl _ _)).2⟩
    · have hd2 : decide (wi < 0) = false := decide_eq_false hw0
      by_cases hwn : (os.length : Int) ≤ wi
      · have hd3 : decide (wi ≥ (os.length : Int)) = true := decide_eq_true hwn
        have Hv := Lib.hid (show oneP ps os (.mk f t wi sub) = false by rw [oneP, if_neg Hwi.out, if_pos (.inr (.inl hwn))])
        go_enter Try.func64, Try.ntmps64
        go_wp2_with fail
        go_ret
        exact ⟨ret_bool Hv.out.symm, hW1 ▸ (HBB.out _ (Below.refl _ _)).2⟩
      · have hd3 : decide (wi ≥ (os.length : Int)) = false := decide_eq_false hwn
        by_cases hs0 : 0 < sub.length
        · have hd4 : decide ((sub.length : Int) > 0) = true := by simp; omega
          have Hv := Lib.hid (show oneP ps os (.mk f t wi sub) = false by rw [oneP, if_neg Hwi.out, if_pos (.inr (.inr hs0))])
          go_enter Try.func64, Try.ntmps64
          go_wp2_with fail
          go_ret
          exact ⟨ret_bool Hv.out.symm, hW1 ▸ (HBB.out _ (Below.refl _ _)).2⟩
        · have hd4 : decide ((sub.length : Int) > 0) = false := decide_eq_false (by omega)
          have Hv := Lib.hid (show oneP ps os (.mk f t wi sub) = allP ps os wi.toNat f t by rw [oneP, if_neg Hwi.out, if_neg (fun h => h.elim hw0 (fun h => h.elim hwn hs0))])
          obtain ⟨j, rfl⟩ : ∃ j : Nat, wi = j := ⟨wi.toNat, by omega⟩
          have hj : j < os.length := by omega
          simp only [Int.toNat_natCast] at Hv
          have hd5 : ¬ (os.length ≤ j ∨ 0 < sub.length) := fun h => h.elim (fun h => hwn (by omega)) hs0
          have hd6 : ¬ os.length ≤ j := fun h => hwn (by omega)
          have hd7 : ¬ 0 < sub.length := hs0
          clear hw0 hwn hs0 Hwi
          go_enter Try.func64, Try.ntmps64
          go_wp2_with fail
          rw [← hW1]
          clear hW1 q4
          go_loopw [7] (fun o wr => ∃ x : Int, f ≤ x ∧ x ≤ t + 1 ∧ o = .int .i64 x ∧ Below W1.heap.size W1 wr ∧ Hid (∀ y, f ≤ y → y < x → clashP ps os j y = true)) (fun o _ => (t + 1 - intOf o).toNat)
          case atStart => exact ⟨f, Int.le_refl _, by omega, rfl, Below.refl _ _, fun y h1 h2 => absurd h1 (by omega)⟩
          case round =>
            obtain ⟨x, hx1, hx2, rfl, hBr, hall⟩ := hrel
            have s1 : wr.cell? ⟨W.heap.size, 1, none⟩ = some (.int .i64 t) := (hb0.below hBr hb0.lt).cell 1
            have s2 : wr.cell? ⟨W.heap.size, 2, none⟩ = some (.int .i64 j) := (hb0.below hBr hb0.lt).cell 2
            by_cases hxt : x ≤ t
            · have hxd : decide (x ≤ t) = true := decide_eq_true hxt
              have hcl := clash_m (HSB.out.next hBr) j hj hn x
              have hwr := IntWalk.i64_in (x + 1) (by omega)
              cases hq : clashP ps os j x with
              | true =>
                have Hnx : Hid (∀ y, f ≤ y → y < x + 1 → clashP ps os j y = true) := fun y h1 h2 => by
                  by_cases e : y = x
                  · subst e; exact hq
                  · exact hall.out y h1 (by omega)
                rw [hq] at hcl
                clear hall hq
                go_wp2_with fail
                refine hcl.mono ?_
                rintro e w3 ⟨rfl, hb⟩
                have hB3 := hBr.trans (hb.mono hBr.size)
                clear hcl hb hBr s1 s2
                go_wp2_with fail
                go_roundw
                case rel => exact ⟨x + 1, by omega, by omega, by go_num, hB3, Hnx⟩
                case measure => simp [intOf]; omega
              | false =>
                have Hno := Lib.hid (Hv.out.trans (allP_no hx1 hxt hq))
                rw [hq] at hcl
                clear hall hq
                go_wp2_with fail
                refine hcl.mono ?_
                rintro e w3 ⟨rfl, hb⟩
                have hB3 := hBr.trans (hb.mono hBr.size)
                clear hcl hb hBr s1 s2
                go_wp2_with fail
                go_ret
                exact ⟨ret_bool Hno.out.symm, (HBB.out _ hB3).2⟩
            · have hxd : decide (x ≤ t) = false := decide_eq_false hxt
              have Hyes := Lib.hid (Hv.out.trans (allP_yes fun y h1 h2 => hall.out y h1 (by omega)))
              clear hall
              go_wp2_with fail
              go_ret
              exact ⟨ret_bool Hyes.out.symm, (HBB.out _ hBr).2⟩
end
end Go.Proofs.Ytlmbffnmjfbglab
