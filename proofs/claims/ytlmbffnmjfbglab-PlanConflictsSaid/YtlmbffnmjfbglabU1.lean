/- Plan. -/
import Derived.Test.YtlmbffnmjfbglabU0
import Derived.Test.YtlmbffnmjfbglabQ0
import Derived.Defers
import Derived.Recover
set_option linter.unusedSimpArgs false
set_option linter.unusedVariables false
namespace Go.Proofs.Ytlmbffnmjfbglab
open Go.ChangeShapes Go.WideShapes Go.ChangeAt Go.RowKit

/-- what Plan returns: offsets, claims, the error. -/
def planV (F : Int) (ps : List Part) : List Int × List Claim × Int :=
  if timesV F ps then (match tryR ps ps.length [] 0 with
    | .stop os e => (os, [], e)
    | .claims cl _ => if 16384 < sizeL cl then ([], [], 5) else ([], cl, 130))
  else ([], [], 2)

theorem sizeL_extend (cl : List Claim) (o j : Int) : sizeL (extend cl o j) ≤ sizeL cl + 1 := by
  unfold extend
  rcases List.eq_nil_or_concat cl with rfl | ⟨c0, ⟨f, t, w, s⟩, rfl⟩
  · simp [sizeL, Claim.subN]
  · rw [List.concat_eq_append]
    simp only [List.getLast?_append, List.getLast?_singleton, Option.some_or]
    split
    · simp [sizeL_append, sizeL, Claim.subN]
    · simp [sizeL_append, sizeL, Claim.subN]; omega
theorem prefR_size (ps : List Part) (rec : List Int → Nat → Res) (hrec : ∀ os t l t', rec os t = .claims l t' → sizeL l + t ≤ t') (os : List Int) (t : Nat) : ∀ (k : Nat) (cl : List Claim) (t' : Nat), prefR ps rec os t k = .claims cl t' → sizeL cl + t ≤ t'
  | 0, cl, t', h => by
    simp only [prefR] at h
    injection h with h1 h
    subst h1 h
    simp [sizeL]
  | k + 1, cl, t', h => by
    simp only [prefR] at h
    cases hp : prefR ps rec os t k with
    | stop a e => rw [hp] at h; cases h
    | claims cl0 t0 =>
      rw [hp] at h
      have ih := prefR_size ps rec hrec os t k cl0 t0 hp
      simp only [oneR] at h
      split at h
      · cases h
      · split at h
        · split at h
          · cases h
          · rename_i sub t1 hr
            injection h with h1 h
            subst h1 h
            have := hrec _ _ _ _ hr
            simp [sizeL_append, sizeL, Claim.subN]; omega
        · injection h with h1 h
          subst h1 h
          have := sizeL_extend cl0 k (conflP ps os k)
          omega
theorem tryR_size (ps : List Part) : ∀ (r : Nat) (os : List Int) (t : Nat) (l : List Claim) (t' : Nat), tryR ps r os t = .claims l t' → sizeL l + t ≤ t'
  | 0, _, _, _, _, h => by simp [tryR] at h
  | r + 1, os, t, l, t', h => prefR_size ps (tryR ps r) (tryR_size ps r) os t _ l t' (by simpa only [tryR] using h)
theorem assert63 (v : Value) (w : World) : (Instr.typeAssert (.iface 63 v) 20 63 true).run Try.prog w = .ok (.tuple #[v, .bool true]) w := by
  simp [Instr.typeAssert, run_underlying Try.underlying63]
theorem catch_idle (p q r : Addr) (w : World) :
    CallsD Try.prog 36 #[.pointer (some p), .pointer (some q), .pointer (some r)] .returning w fun e u' w' => e = .returned (.tuple #[]) ∧ u' = .returning ∧ w' = w := by
  refine callsD_of_wpS Try.func36 rfl fun c₀ cs hu => ?_
  simp only [Try.ntmps36, List.size_toArray, List.length_cons, List.length_nil, Nat.reduceAdd, Nat.reduceSub, Array.replicate_succ, Array.replicate_zero, List.push_toArray, List.append_toArray, List.nil_append, List.cons_append]
  apply wpS_seq
  apply wpS_region
  simp [wpOpsS, go_sem, recoverD, hu, Exit.thenS]
  refine wpS_of_wp ?_
  have hQ : ∀ a, a.defers = [] → bodyPostS Try.prog Try.f36 c₀ cs (fun e u' w' => e = Ending.returned (Value.tuple #[]) ∧ u' = FrameMode.returning ∧ w' = w) .normal a (c₀ :: cs) w := fun a ha => by
    cases c₀
    simp_all [bodyPostS, results, Try.results36]
  revert hQ
  generalize bodyPostS Try.prog Try.f36 c₀ cs (fun e u' w' => e = Ending.returned (Value.tuple #[]) ∧ u' = FrameMode.returning ∧ w' = w) = Q
  intro hQ
  clear hu
  go_wp2_with fail
  rfl
set_option maxRecDepth 100000 in
set_option maxHeartbeats 400000 in
theorem catch_stop (B : Nat) (v0 v1 v2 : Value) (A : Option Addr) (n c : Nat) (er : Int) (w : World) (older : List PanicEntry) (h0 : Blk w B 28 #[v0]) (h1 : Blk w (B + 1) 29 #[v1]) (h2 : Blk w (B + 2) 30 #[v2]) :
    CallsD Try.prog 36 #[.pointer (some ⟨B, 0, none⟩), .pointer (some ⟨B + 1, 0, none⟩), .pointer (some ⟨B + 2, 0, none⟩)] (.panicking ({ v := .iface 63 (.agg #[.slice A n c, .int .i64 er]), recovered := false } :: older)) w fun e u' w' => e = .returned (.tuple #[]) ∧ u' = .panicking ({ v := .iface 63 (.agg #[.slice A n c, .int .i64 er]), recovered := true } :: older) ∧ Gr (fun b => B ≤ b ∧ b ≤ B + 2) w w' ∧ Blk w' B 28 #[.slice A n c] ∧ Blk w' (B + 1) 29 #[.slice none 0 0] ∧ Blk w' (B + 2) 30 #[.int .i64 er] := by
  refine callsD_of_wpS Try.func36 rfl fun c₀ cs hu => ?_
  simp only [Try.ntmps36, List.size_toArray, List.length_cons, List.length_nil, Nat.reduceAdd, Nat.reduceSub, Array.replicate_succ, Array.replicate_zero, List.push_toArray, List.append_toArray, List.nil_append, List.cons_append]
  apply wpS_seq
  apply wpS_region
  simp [wpOpsS, go_sem, recoverD, hu, Exit.thenS]
  refine wpS_of_wp ?_
  have q0 := h0.cell 0
  have q1 := h1.cell 0
  have q2 := h2.cell 0
  have f0 := h0.frozen 0
  have f1 := h1.frozen 0
  have f2 := h2.frozen 0
  simp at q0 q1 q2
  have z0 := h0.lt
  have z1 := h1.lt
  have z2 := h2.lt
  have hx : Blk (w.alloc (.cells #[.slice A n c, .int .i64 er] 63)) w.heap.size 63 _ := Blk.new w 63 #[.slice A n c, .int .i64 er]
  have y0 := h0.alloc (.cells #[.slice A n c, .int .i64 er] 63)
  have y1 := h1.alloc (.cells #[.slice A n c, .int .i64 er] 63)
  have y2 := h2.alloc (.cells #[.slice A n c, .int .i64 er] 63)
  have hG := Gr.alloc (fun b => B ≤ b ∧ b ≤ B + 2) w (.cells #[.slice A n c, .int .i64 er] 63)
  obtain ⟨Q, hQe⟩ : ∃ Q : Exit → Act → World → Prop, Q = fun e a' w' => bodyPostS Try.prog Try.f36 c₀ cs
        (fun e u' w' => e = Ending.returned (Value.tuple #[]) ∧ u' = FrameMode.panicking ({ v := Value.iface 63 (Value.agg #[Value.slice A n c, Value.int IntKind.i64 er]), recovered := true } :: older) ∧
              Gr (fun b => B ≤ b ∧ b ≤ B + 2) w w' ∧ Blk w' B 28 #[Value.slice A n c] ∧ Blk w' (B + 1) 29 #[Value.slice none 0 0] ∧ Blk w' (B + 2) 30 #[Value.int IntKind.i64 er])
        e a'
        ({ fn := c₀.fn, tmps := c₀.tmps, todo := c₀.todo, defers := c₀.defers, mode := FrameMode.panicking ({ v := Value.iface 63 (Value.agg #[Value.slice A n c, Value.int IntKind.i64 er]), recovered := true } :: older),
            kind := c₀.kind, roundOf := c₀.roundOf } :: cs) w' := ⟨_, rfl⟩
  rw [← hQe]
  have hQ : ∀ a w', a.defers = [] → Gr (fun b => B ≤ b ∧ b ≤ B + 2) w w' ∧ Blk w' B 28 #[Value.slice A n c] ∧ Blk w' (B + 1) 29 #[Value.slice none 0 0] ∧ Blk w' (B + 2) 30 #[Value.int IntKind.i64 er] → Q .normal a w' := fun a w' ha hw => by
    rw [hQe]
    exact ⟨ha, _, rfl, _, (by simp [results, Try.results36]), rfl, rfl, hw⟩
  have HQ := Lib.hid hQ
  have has := fun v W => assert63 v W
  clear hQe hQ hu
  go_wp2_with fail
  clear q0 q1 q2 f0 f1 f2 has
  generalize w.heap.size = X at *
  generalize w.alloc (Obj.cells #[Value.slice A n c, Value.int IntKind.i64 er] 63) = W1 at *
  have x0 : W1.cell? ⟨X, 0, none⟩ = some (.slice A n c) := hx.cell 0
  have x1 : W1.cell? ⟨X, 1, none⟩ = some (.int .i64 er) := hx.cell 1
  have q0 : W1.cell? ⟨B, 0, none⟩ = some v0 := y0.cell 0
  have q1 : W1.cell? ⟨B + 1, 0, none⟩ = some v1 := y1.cell 0
  have q2 : W1.cell? ⟨B + 2, 0, none⟩ = some v2 := y2.cell 0
  have f0 := y0.frozen 0
  have f1 := y1.frozen 0
  have f2 := y2.frozen 0
  clear h0 h1 h2
  have n0 : ¬ B = X := by omega
  have n1 : ¬ B + 1 = X := by omega
  have n2 : ¬ B + 2 = X := by omega
  have m0 : ¬ X = B := by omega
  have m1 : ¬ X = B + 1 := by omega
  have m2 : ¬ X = B + 2 := by omega
  go_region_held3 (fun w' => w'.cell? ⟨X, 0, none⟩ = some (.slice A n c) ∧ w'.cell? ⟨X, 1, none⟩ = some (.int .i64 er)) (go_keep) (fail)
  exact HQ.out _ _ rfl ⟨(((hG.trans (Gr.setCell _ _ _ (by simp))).trans (Gr.setCell _ _ _ (by simp))).trans (Gr.setCell _ _ _ (by simp))).trans (Gr.of_below (Below.refl _ _).drew),
    (((y0.set_ 0 (.slice A n c)).far (p := ⟨B + 1, 0, none⟩) (by simp) _).far (p := ⟨B + 2, 0, none⟩) (by simp) _).drew,
    (((y1.far (p := ⟨B, 0, none⟩) (by simp) _).set_ 0 (.slice none 0 0)).far (p := ⟨B + 2, 0, none⟩) (by simp) _).drew,
    (((y2.far (p := ⟨B, 0, none⟩) (by simp) _).far (p := ⟨B + 1, 0, none⟩) (by simp) _).set_ 0 (.int .i64 er)).drew⟩

theorem Gr.below0 {X : Nat → Prop} {a b : World} (h : Gr X a b) (hx : ∀ k, k < a.heap.size → ¬ X k) : Below a.heap.size a b := ⟨h.os, h.tape, h.output, h.size, fun k hk => h.block k hk (hx k hk)⟩
/-- Plan's results, read. -/
theorem plan_res {w W : World} {tmps : Array Value} {R : Ending → World → Prop} {v1 v2 v3 : Value} (t2 : tmps[2]?.getD undef = .pointer (some ⟨w.heap.size + 1, 0, none⟩)) (t3 : tmps[3]?.getD undef = .pointer (some ⟨w.heap.size + 1 + 1, 0, none⟩)) (t4 : tmps[4]?.getD undef = .pointer (some ⟨w.heap.size + 1 + 1 + 1, 0, none⟩))
    (h1 : Blk W (w.heap.size + 1) 28 #[v1]) (h2 : Blk W (w.heap.size + 2) 29 #[v2]) (h3 : Blk W (w.heap.size + 3) 30 #[v3])
    (hR : R (.returned (.tuple #[v1, v2, v3])) W) : Leaves Try.prog Try.f16 tmps R [] .returning W := by
  have q1 : W.cell? ⟨w.heap.size + 1, 0, none⟩ = some v1 := h1.cell 0
  have q2 : W.cell? ⟨w.heap.size + 1 + 1, 0, none⟩ = some v2 := h2.cell 0
  have q3 : W.cell? ⟨w.heap.size + 1 + 1 + 1, 0, none⟩ = some v3 := h3.cell 0
  refine ⟨_, ?_, hR⟩
  simp [results, Try.results16, go_sem, t2, t3, t4, q1, q2, q3]
theorem planV_bad {F : Int} {ps : List Part} (h : timesV F ps = false) : planV F ps = ([], [], 2) := by simp [planV, h]
set_option maxRecDepth 100000 in
set_option maxHeartbeats 4000000 in
theorem plan_c (name : ByteArray) (mem F : Int) (ps : List Part) (A : Option Addr) (c : Nat) (w : World) (h : RdPart w w.heap.size A ps) (hl : ps.length * 8 ≤ 140737488355328) :
    Calls Try.prog 16 #[.agg #[.string name, .int .i64 mem, .int .i64 F, .slice A ps.length c]] w fun e w' => ∃ Ao co Ac cc, e = .returned (.tuple #[.slice Ao (planV F ps).1.length co, .slice Ac (planV F ps).2.1.length cc, .int .i64 (planV F ps).2.2]) ∧ RdInt w' w'.heap.size Ao (planV F ps).1 ∧ RdCls w' (MadeQ w.heap.size w') Ac (planV F ps).2.1 ∧ (planV F ps).2.1.length ≤ cc ∧ Below w.heap.size w w' := by
  have hmf : ∀ (fn : Fn) (first cap : Array Value) (w : World), (Instr.makeFunc fn first cap).run Try.prog w = .ok (.func fn first cap) w := fun _ _ _ _ => rfl
  obtain ⟨W1, hW1⟩ : ∃ W1, W1 = (((w.alloc (.cells #[.string name, .int .i64 mem, .int .i64 F, .slice A ps.length c] 24)).alloc (.cells #[.slice none 0 0] 28)).alloc (.cells #[.slice none 0 0] 29)).alloc (.cells #[.int .i64 0] 30) := ⟨_, rfl⟩
  have hB : Below w.heap.size w W1 := by rw [hW1]; exact (((((Below.refl _ w).alloc (Nat.le_refl _) _).alloc (by simp) _).alloc (by simp; omega) _).alloc (by simp; omega) _)
  have hb0 : Blk W1 w.heap.size 24 #[.string name, .int .i64 mem, .int .i64 F, .slice A ps.length c] := by rw [hW1]; exact (((Blk.new w 24 _).alloc _).alloc _).alloc _
  have hb1 : Blk W1 (w.heap.size + 1) 28 #[.slice none 0 0] := by
    rw [hW1]
    have := ((Blk.new (w.alloc (.cells #[.string name, .int .i64 mem, .int .i64 F, .slice A ps.length c] 24)) 28 #[.slice none 0 0]).alloc (.cells #[.slice none 0 0] 29)).alloc (.cells #[.int .i64 0] 30)
    simpa only [World.size_alloc] using this
  have hb2 : Blk W1 (w.heap.size + 2) 29 #[.slice none 0 0] := by
    rw [hW1]
    have := (Blk.new ((w.alloc (.cells #[.string name, .int .i64 mem, .int .i64 F, .slice A ps.length c] 24)).alloc (.cells #[.slice none 0 0] 28)) 29 #[.slice none 0 0]).alloc (.cells #[.int .i64 0] 30)
    simpa only [World.size_alloc] using this
  have hb3 : Blk W1 (w.heap.size + 3) 30 #[.int .i64 0] := by
    rw [hW1]
    have := Blk.new (((w.alloc (.cells #[.string name, .int .i64 mem, .int .i64 F, .slice A ps.length c] 24)).alloc (.cells #[.slice none 0 0] 28)).alloc (.cells #[.slice none 0 0] 29)) 30 #[.int .i64 0]
    simpa only [World.size_alloc] using this
  go_enter_defers Try.func16, Try.ntmps16
  go_wp2_with fail
  rw [← hW1]
  clear hW1
  refine (ptimes_c name mem F ps A c W1 (h.below hB) hl).mono ?_
  rintro e W2 ⟨rfl, hb⟩
  rw [ptimes_iff]
  have hz1 : w.heap.size + 4 ≤ W1.heap.size := by have := hb3.lt; omega
  have hB2 : Below w.heap.size w W2 := hB.trans (hb.mono hB.size)
  replace hb0 := hb0.below hb (by omega)
  replace hb1 := hb1.below hb (by omega)
  replace hb2 := hb2.below hb (by omega)
  replace hb3 := hb3.below hb (by omega)
  have q00 : W2.cell? ⟨w.heap.size, 0, none⟩ = some (.string name) := hb0.cell 0
  have q01 : W2.cell? ⟨w.heap.size, 1, none⟩ = some (.int .i64 mem) := hb0.cell 1
  have q02 : W2.cell? ⟨w.heap.size, 2, none⟩ = some (.int .i64 F) := hb0.cell 2
  have q03 : W2.cell? ⟨w.heap.size, 3, none⟩ = some (.slice A ps.length c) := hb0.cell 3
  have q1 : W2.cell? ⟨w.heap.size + 1, 0, none⟩ = some (.slice none 0 0) := hb1.cell 0
  have q2 : W2.cell? ⟨w.heap.size + 1 + 1, 0, none⟩ = some (.slice none 0 0) := hb2.cell 0
  have q3 : W2.cell? ⟨w.heap.size + 1 + 1 + 1, 0, none⟩ = some (.int .i64 0) := hb3.cell 0
  have f1 := hb1.frozen 0
  have f2 : W2.frozen? ⟨w.heap.size + 1 + 1, 0, none⟩ = false := hb2.frozen 0
  have f3 : W2.frozen? ⟨w.heap.size + 1 + 1 + 1, 0, none⟩ = false := hb3.frozen 0
  cases ht : timesV F ps with
  | false =>
    have hV := Lib.hid (planV_bad ht)
    have hGz : Gr (fun b => w.heap.size ≤ b) w (((W2.setCell ⟨w.heap.size + 1, 0, none⟩ (.slice none 0 0)).setCell ⟨w.heap.size + 1 + 1, 0, none⟩ (.slice none 0 0)).setCell ⟨w.heap.size + 1 + 1 + 1, 0, none⟩ (.int .i64 2)) := (((Gr.of_below hB2).trans (Gr.setCell _ _ _ (by simp))).trans (Gr.setCell _ _ _ (by simp; omega))).trans (Gr.setCell _ _ _ (by simp; omega))
    have HB := Lib.hid (hGz.below0 fun k hk x => by omega)
    clear ht hGz hB hB2 hb h
    go_wp2_with fail
    simp only [bodyPostD]
    refine plan_res (w := w) (v1 := .slice none 0 0) (v2 := .slice none 0 0) (v3 := .int .i64 2) ?_ ?_ ?_ (((hb1.set_ 0 (.slice none 0 0)).far (p := ⟨w.heap.size + 1 + 1, 0, none⟩) (by simp) _).far (p := ⟨w.heap.size + 1 + 1 + 1, 0, none⟩) (by simp) _) (((hb2.far (p := ⟨w.heap.size + 1, 0, none⟩) (by simp) _).set_ 0 (.slice none 0 0)).far (p := ⟨w.heap.size + 1 + 1 + 1, 0, none⟩) (by simp) _)
      (((hb3.far (p := ⟨w.heap.size + 1, 0, none⟩) (by simp) _).far (p := ⟨w.heap.size + 1 + 1, 0, none⟩) (by simp) _).set_ 0 (.int .i64 2)) ?_
    · rfl
    · rfl
    · rfl
    rw [hV.out]
    exact ⟨none, 0, none, 0, rfl, fun hn => by simp at hn, fun hn => by simp at hn, Nat.le_refl _, HB.out⟩
  | true =>
    have hT := timesV_ok ht
    have hPT : PT ps := ⟨hT.few, fun p hp => ⟨(hT.len p hp).1, (hT.len p hp).2, (hT.per p hp).2.1⟩⟩
    have hRd := h.below hB2
    have hbs := Blk.new W2 67 #[.string name, .int .i64 mem, .int .i64 F, .slice A ps.length c, .slice none 0 0, .int .i64 0]
    have hBa : Below W2.heap.size W2 (W2.alloc (.cells #[.string name, .int .i64 mem, .int .i64 F, .slice A ps.length c, .slice none 0 0, .int .i64 0] 67)) := (Below.refl _ _).alloc (Nat.le_refl _) _
    have hSB : SB (W2.alloc (.cells #[.string name, .int .i64 mem, .int .i64 F, .slice A ps.length c, .slice none 0 0, .int .i64 0] 67)) W2.heap.size name mem F A ps c none [] 0 (0 : Nat) := ⟨hbs, hRd.below hBa, fun hn => by simp at hn, (fun b o e _ => by cases e), Nat.le_refl _⟩
    have htr := try_c W2.heap.size name mem F A ps c hPT ps.length _ none [] 0 0 hSB (fun b o e _ => by cases e) (by simp) (by omega)
    replace hb1 := hb1.below hBa hb1.lt
    replace hb2 := hb2.below hBa hb2.lt
    replace hb3 := hb3.below hBa hb3.lt
    have hz2 : w.heap.size + 4 ≤ W2.heap.size := by have := hb.size; omega
    have Htr := Lib.hid htr
    have HB := Lib.hid hB2
    have hz2' := hB2.size
    clear hSB hbs hRd hPT hT h hB hB2 hb htr
    go_wp2_with fail
    refine Htr.out.mono ?_
    rintro e W4 ⟨hgr, hc, hs⟩
    have hbl : Below W2.heap.size W2 W4 := hBa.trans ⟨hgr.os, hgr.tape, hgr.output, hgr.size, fun k hk => hgr.block k (by simp; omega) (by simp; omega)⟩
    have hB4 := HB.out.trans (hbl.mono hz2')
    replace hb1 := hb1.grown hgr (by simp; omega)
    replace hb2 := hb2.grown hgr (by simp; omega)
    replace hb3 := hb3.grown hgr (by simp; omega)
    cases hT : tryR ps ps.length [] 0 with
    | stop a er =>
      obtain ⟨A', c', rfl, hri⟩ := hs a er hT
      have hV : planV F ps = (a, [], er) := by simp [planV, ht, hT]
      refine leaves_cons (f := 36) (args := #[.pointer (some ⟨w.heap.size + 1, 0, none⟩), .pointer (some ⟨w.heap.size + 1 + 1, 0, none⟩), .pointer (some ⟨w.heap.size + 1 + 1 + 1, 0, none⟩)]) (by simp) (by simp [go_sem]) ?_
      refine (catch_stop (w.heap.size + 1) _ _ _ A' a.length c' er W4 [] hb1 hb2 hb3).mono ?_
      rintro e u' W5 ⟨rfl, rfl, hG5, k1, k2, k3⟩
      refine plan_res (w := w) (v1 := .slice A' a.length c') (v2 := .slice none 0 0) (v3 := .int .i64 er) ?_ ?_ ?_ k1 k2 k3 ?_
      · rfl
      · rfl
      · rfl
      rw [hV]
      have hB5 : Below w.heap.size w W5 := ((Gr.of_below (X := fun b => w.heap.size ≤ b) hB4).trans (hG5.mono fun k _ x => by omega)).below0 fun k hk x => by omega
      refine ⟨A', c', none, 0, rfl, fun hn => ?_, fun hn => by simp at hn, Nat.le_refl _, hB5⟩
      obtain ⟨b, o, rfl, hb, hcl⟩ := hri.1 hn
      have hlo := hri.2 b o rfl hn
      simp at hlo
      exact ⟨b, o, rfl, Nat.lt_of_lt_of_le hb hG5.size, fun i hi => hG5.cell (hcl i hi) (fun x => by simp at x; omega)⟩
    | claims cl t =>
      obtain ⟨A', c', rfl, h1, h2, h3, _⟩ := hc cl t hT
      have hsz := tryR_size ps _ _ _ _ _ hT
      have htt := tryR_tries ps _ _ _ _ _ (Nat.zero_le _) hT
      have q1 : W4.cell? ⟨w.heap.size + 1, 0, none⟩ = some (.slice none 0 0) := hb1.cell 0
      have q2 : W4.cell? ⟨w.heap.size + 1 + 1, 0, none⟩ = some (.slice none 0 0) := hb2.cell 0
      have q3 : W4.cell? ⟨w.heap.size + 1 + 1 + 1, 0, none⟩ = some (.int .i64 0) := hb3.cell 0
      have f1 := hb1.frozen 0
      have f2 : W4.frozen? ⟨w.heap.size + 1 + 1, 0, none⟩ = false := hb2.frozen 0
      have f3 : W4.frozen? ⟨w.heap.size + 1 + 1 + 1, 0, none⟩ = false := hb3.frozen 0
      have hrd : RdCls (W4.setCell ⟨w.heap.size + 1 + 1, 0, none⟩ (.slice A' cl.length c')) (MadeQ W2.heap.size (W4.setCell ⟨w.heap.size + 1 + 1, 0, none⟩ (.slice A' cl.length c'))) A' cl := h3.keep fun b ⟨g1, o, g2, g3⟩ => by
        have hne : ¬ w.heap.size + 1 + 1 = b := by simp at g1; omega
        exact ⟨fun o => World.cell?_setCell_far _ _ _ _ hne, by simp at g1; omega, o, (Below.heap_setCell _ _ _ _ (fun e => hne e.symm)).trans g2, g3⟩
      have hk : RdK (W4.setCell ⟨w.heap.size + 1 + 1, 0, none⟩ (.slice A' cl.length c')) A' cl := hrd.keep fun b ⟨_, o, g2, _⟩ => ⟨fun _ => rfl, (Array.getElem?_eq_some_iff.1 g2).1⟩
      have hsc := size_c (sizeL cl + 1) cl (by omega) A' c' _ hk (by unfold maxLen at h2; omega)
      rw [IntWalk.i64_in (sizeL cl : Int) (by omega)] at hsc
      have hG5 : Gr (fun b => w.heap.size ≤ b) w (W4.setCell ⟨w.heap.size + 1 + 1, 0, none⟩ (.slice A' cl.length c')) := (Gr.of_below hB4).trans (Gr.setCell _ _ _ (by simp; omega))
      have hV : planV F ps = if 16384 < sizeL cl then ([], [], 5) else ([], cl, 130) := by simp [planV, ht, hT]
      replace hb1 := hb1.far (p := ⟨w.heap.size + 1 + 1, 0, none⟩) (by simp) (.slice A' cl.length c')
      replace hb2 := hb2.set_ 0 (.slice A' cl.length c')
      replace hb3 := hb3.far (p := ⟨w.heap.size + 1 + 1, 0, none⟩) (by simp) (.slice A' cl.length c')
      have HRd := Lib.hid hrd
      have Hsc := Lib.hid hsc
      have HG5 := Lib.hid hG5
      have HV := Lib.hid hV
      have hz4 : W2.heap.size ≤ W4.heap.size := hbl.size
      clear hrd hsc hG5 hV h3 hk hT htt hsz hB4 hbl hc hs hgr Htr HB ht hBa
      go_wp2_with fail
      refine Hsc.out.mono ?_
      rintro e W6 ⟨rfl, hb6⟩
      replace hb1 := hb1.below hb6 hb1.lt
      replace hb2 := hb2.below hb6 hb2.lt
      replace hb3 := hb3.below hb6 hb3.lt
      have hrd6 : RdCls W6 (MadeQ w.heap.size W6) A' cl := HRd.out.keep fun b ⟨g1, o, g2, g3⟩ => by
        have e := hb6.block b (Array.getElem?_eq_some_iff.1 g2).1
        exact ⟨fun _ => World.cell?_of_block e, by omega, o, e.trans g2, g3⟩
      have hG6 : Gr (fun b => w.heap.size ≤ b) w W6 := HG5.out.trans (Gr.of_below hb6)
      have hri6 : ∀ b, MadeQ W2.heap.size W6 b → True := fun _ _ => trivial
      have hrdF : RdCls W6 (fun b => W2.heap.size ≤ b ∧ ∃ o, W6.heap[b]? = some o ∧ o.isCells = true) A' cl := HRd.out.keep fun b ⟨g1, o, g2, g3⟩ => by
        have e := hb6.block b (Array.getElem?_eq_some_iff.1 g2).1
        exact ⟨fun _ => World.cell?_of_block e, g1, o, e.trans g2, g3⟩
      have HrF := Lib.hid hrdF
      have HG6 := Lib.hid hG6
      have HzW := Lib.hid hz2
      clear hrd6 hG6 hri6 hrdF HRd HG5 hb6 Hsc q1 q2 q3 f1 f2 f3
      have q1 : W6.cell? ⟨w.heap.size + 1, 0, none⟩ = some (.slice none 0 0) := hb1.cell 0
      have q2 : W6.cell? ⟨w.heap.size + 1 + 1, 0, none⟩ = some (.slice A' cl.length c') := hb2.cell 0
      have q3 : W6.cell? ⟨w.heap.size + 1 + 1 + 1, 0, none⟩ = some (.int .i64 0) := hb3.cell 0
      have f1 := hb1.frozen 0
      have f2 : W6.frozen? ⟨w.heap.size + 1 + 1, 0, none⟩ = false := hb2.frozen 0
      have f3 : W6.frozen? ⟨w.heap.size + 1 + 1 + 1, 0, none⟩ = false := hb3.frozen 0
      by_cases hgt : 16384 < sizeL cl
      · have hd : decide ((sizeL cl : Int) > 16384) = true := by simp; omega
        have hd2 : ((16384 : Int) < (sizeL cl : Int)) := by omega
        have hV := HV.out
        rw [if_pos hgt] at hV
        replace HV := Lib.hid hV
        clear hV hgt h1 h2 hz1 hz2 hz2' hz4
        go_wp2_with fail
        simp only [bodyPostD]
        refine leaves_cons (f := 36) (args := #[.pointer (some ⟨w.heap.size + 1, 0, none⟩), .pointer (some ⟨w.heap.size + 1 + 1, 0, none⟩), .pointer (some ⟨w.heap.size + 1 + 1 + 1, 0, none⟩)]) (by simp) (by simp [go_sem]) ?_
        refine (catch_idle _ _ _ _).mono ?_
        rintro e u' W7 ⟨rfl, rfl, rfl⟩
        refine plan_res (w := w) (v1 := .slice none 0 0) (v2 := .slice none 0 0) (v3 := .int .i64 5) ?_ ?_ ?_ (((hb1.set_ 0 (.slice none 0 0)).far (p := ⟨w.heap.size + 1 + 1, 0, none⟩) (by simp) _).far (p := ⟨w.heap.size + 1 + 1 + 1, 0, none⟩) (by simp) _) (((hb2.far (p := ⟨w.heap.size + 1, 0, none⟩) (by simp) _).set_ 0 (.slice none 0 0)).far (p := ⟨w.heap.size + 1 + 1 + 1, 0, none⟩) (by simp) _)
          (((hb3.far (p := ⟨w.heap.size + 1, 0, none⟩) (by simp) _).far (p := ⟨w.heap.size + 1 + 1, 0, none⟩) (by simp) _).set_ 0 (.int .i64 5)) ?_
        · rfl
        · rfl
        · rfl
        rw [HV.out]
        exact ⟨none, 0, none, 0, rfl, fun hn => by simp at hn, fun hn => by simp at hn, Nat.le_refl _, ((((HG6.out).trans (Gr.setCell _ _ _ (by simp))).trans (Gr.setCell _ _ _ (by simp; omega))).trans (Gr.setCell _ _ _ (by simp; omega))).below0 fun k hk x => by omega⟩
      · have hd : decide ((sizeL cl : Int) > 16384) = false := by simp; omega
        have hd2 : ¬ ((16384 : Int) < (sizeL cl : Int)) := by omega
        have hV := HV.out
        rw [if_neg hgt] at hV
        replace HV := Lib.hid hV
        have H1 := Lib.hid h1
        clear hV hgt h1 h2 hz1 hz2 hz2' hz4
        go_wp2_with fail
        have hk1 : ((W6.setCell ⟨w.heap.size + 1, 0, none⟩ (.slice none 0 0)).setCell ⟨w.heap.size + 1 + 1, 0, none⟩ (.slice A' cl.length c')).cell? ⟨w.heap.size + 1 + 1, 0, none⟩ = some (.slice A' cl.length c') := ((hb2.far (p := ⟨w.heap.size + 1, 0, none⟩) (by simp) (.slice none 0 0)).set_ 0 (.slice A' cl.length c')).cell 0
        have hk2 : (((W6.setCell ⟨w.heap.size + 1, 0, none⟩ (.slice none 0 0)).setCell ⟨w.heap.size + 1 + 1, 0, none⟩ (.slice A' cl.length c')).setCell ⟨w.heap.size + 1 + 1 + 1, 0, none⟩ (.int .i64 130)).cell? ⟨w.heap.size + 1 + 1, 0, none⟩ = some (.slice A' cl.length c') := (((hb2.far (p := ⟨w.heap.size + 1, 0, none⟩) (by simp) (.slice none 0 0)).set_ 0 (.slice A' cl.length c')).far (p := ⟨w.heap.size + 1 + 1 + 1, 0, none⟩) (by simp) (.int .i64 130)).cell 0
        go_region_held3 (fun w' => w'.cell? ⟨w.heap.size + 1 + 1, 0, none⟩ = some (.slice A' cl.length c')) (first | (go_keep; done) | (with_reducible exact hk1) | (with_reducible exact hk2) | (rw [World.cell?_drew]; with_reducible exact hk1) | (rw [World.cell?_drew]; with_reducible exact hk2)) (fail)
        refine nameX fun W7 hW7 => ?_
        have e1 : Blk W7 (w.heap.size + 1) 28 #[.slice none 0 0] := by rw [hW7]; exact (((hb1.set_ 0 (.slice none 0 0)).far (p := ⟨w.heap.size + 1 + 1, 0, none⟩) (by simp) _).far (p := ⟨w.heap.size + 1 + 1 + 1, 0, none⟩) (by simp) _).drew
        have e2 : Blk W7 (w.heap.size + 2) 29 #[.slice A' cl.length c'] := by rw [hW7]; exact (((hb2.far (p := ⟨w.heap.size + 1, 0, none⟩) (by simp) _).set_ 0 (.slice A' cl.length c')).far (p := ⟨w.heap.size + 1 + 1 + 1, 0, none⟩) (by simp) _).drew
        have e3 : Blk W7 (w.heap.size + 3) 30 #[.int .i64 130] := by rw [hW7]; exact (((hb3.far (p := ⟨w.heap.size + 1, 0, none⟩) (by simp) _).far (p := ⟨w.heap.size + 1 + 1, 0, none⟩) (by simp) _).set_ 0 (.int .i64 130)).drew
        have hG7 : Gr (fun b => b = w.heap.size + 1 ∨ b = w.heap.size + 2 ∨ b = w.heap.size + 3) W6 W7 := by rw [hW7]; exact (((Gr.setCell _ _ _ (by simp)).trans (Gr.setCell _ _ _ (by simp))).trans (Gr.setCell _ _ _ (by simp))).trans (Gr.of_below (Below.refl _ _).drew)
        have hrd7 : RdCls W7 (MadeQ w.heap.size W7) A' cl := HrF.out.keep fun b ⟨g1, o, g2, g3⟩ => by
          have e := hG7.block b (Array.getElem?_eq_some_iff.1 g2).1 (by have := HzW.out; omega)
          exact ⟨fun _ => World.cell?_of_block e, by have := HzW.out; omega, o, e.trans g2, g3⟩
        have HR := Lib.hid hrd7
        have HB7 := Lib.hid ((HG6.out.trans (hG7.mono fun k _ x => by omega)).below0 fun k hk x => by omega)
        clear hrd7 hG7 hW7 hk1 hk2 HrF HG6 hb1 hb2 hb3 q1 q2 q3 f1 f2 f3
        go_wp2_with fail
        simp only [bodyPostD]
        refine leaves_cons (f := 36) (args := #[.pointer (some ⟨w.heap.size + 1, 0, none⟩), .pointer (some ⟨w.heap.size + 1 + 1, 0, none⟩), .pointer (some ⟨w.heap.size + 1 + 1 + 1, 0, none⟩)]) (by simp) (by simp [go_sem]) ?_
        refine (catch_idle _ _ _ _).mono ?_
        rintro e u' W8 ⟨rfl, rfl, rfl⟩
        refine plan_res (w := w) (v1 := .slice none 0 0) (v2 := .slice A' cl.length c') (v3 := .int .i64 130) ?_ ?_ ?_ e1 e2 e3 ?_
        · rfl
        · rfl
        · rfl
        rw [HV.out]
        exact ⟨none, 0, A', c', rfl, fun hn => by simp at hn, HR.out, H1.out, HB7.out⟩
end Go.Proofs.Ytlmbffnmjfbglab
