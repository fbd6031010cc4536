/- Texts U0 U1 U2 U3, joined. -/
import Derived.Defers
import Derived.Recover
import Derived.Test.YtlmbffnmjfbglabG3
import Derived.Test.YtlmbffnmjfbglabG4
set_option linter.unusedSimpArgs false
set_option linter.unusedVariables false
/- The number of claims: Size. -/
namespace Go.Proofs.Ytlmbffnmjfbglab
open Go.ChangeShapes Go.WideShapes Go.ChangeAt Go.RowKit

mutual
/-- the claims below a claim. -/
def Claim.subN : Claim → Nat | .mk _ _ _ s => sizeL s
/-- claims, and all below them. -/
def sizeL : List Claim → Nat | [] => 0 | x :: r => 1 + x.subN + sizeL r
end
theorem sizeL_append (a b : List Claim) : sizeL (a ++ b) = sizeL a + sizeL b := by
  induction a with
  | nil => simp [sizeL]
  | cons x a ih => simp only [List.cons_append, sizeL, ih]; omega
theorem sizeL_take (l : List Claim) (k : Nat) (h : k < l.length) : sizeL (l.take (k + 1)) = sizeL (l.take k) + 1 + l[k].subN := by
  rw [List.take_add_one, List.getElem?_eq_getElem h, sizeL_append]
  simp [sizeL]; omega
theorem sizeL_len (l : List Claim) : l.length ≤ sizeL l := by
  induction l with
  | nil => simp
  | cons x l ih => simp only [List.length_cons, sizeL]; omega
theorem sizeL_mem {l : List Claim} {k : Nat} (h : k < l.length) : l[k].subN < sizeL l := by
  have h1 := sizeL_take l k h
  have h2 : sizeL (l.take (k + 1)) ≤ sizeL l := by
    have := sizeL_append (l.take (k + 1)) (l.drop (k + 1))
    rw [List.take_append_drop] at this
    omega
  omega
theorem Claim.subN_sub (x : Claim) : x.subN = sizeL x.sub := by cases x; simp [Claim.subN, Claim.sub]
theorem wrap_add (a b : Int) : IntKind.i64.wrap (IntKind.i64.wrap a + IntKind.i64.wrap b) = IntKind.i64.wrap (a + b) := by
  simp only [IntKind.wrap_i64]; omega
/-- claims whose arrays are there. -/
abbrev RdK (w : World) (A : Option Addr) (l : List Claim) : Prop := RdCls w (fun b => b < w.heap.size) A l
theorem RdK.keep' {w w' : World} {A : Option Addr} {l : List Claim} (hb : Below w.heap.size w w') (h : RdK w A l) : RdK w' A l :=
  h.keep fun b hlt => ⟨fun _ => World.cell?_of_block (hb.block b hlt), Nat.lt_of_lt_of_le hlt hb.size⟩

set_option maxRecDepth 100000 in
set_option maxHeartbeats 2000000 in
theorem size_c : ∀ (N : Nat) (l : List Claim), sizeL l < N → ∀ (A : Option Addr) (c : Nat) (w : World), RdK w A l → l.length ≤ 9223372036854775807 →
    Calls Try.prog 32 #[.slice A l.length c] w fun e w' => e = .returned (.int .i64 (IntKind.i64.wrap (sizeL l))) ∧ Below w.heap.size w w' := by
  intro N
  induction N with
  | zero => intro l hl; omega
  | succ N ih =>
    intro l hl A c w h hlen
    have hw0 : IntKind.i64.wrap (l.length : Int) = l.length := IntWalk.i64_in _ (by omega)
    have IH := Lib.hid ih
    clear ih
    go_enter Try.func32, Try.ntmps32
    go_wp2_with fail
    go_loopw [3, 10] (fun n i wr => ∃ k : Nat, k ≤ l.length ∧ i = .int .i64 k ∧ n = .int .i64 (IntKind.i64.wrap (sizeL (l.take k) + (l.length - k : Nat) : Nat)) ∧ Below w.heap.size w wr) (fun _ i _ => l.length - (intOf i).toNat)
    case atStart => exact ⟨0, Nat.zero_le _, rfl, by simp [sizeL, hw0], Below.refl _ _⟩
    case round =>
      obtain ⟨k, hk, rfl, rfl, hB⟩ := hrel
      by_cases hlt : k < l.length
      · obtain ⟨b, o, rfl, hb, hl2⟩ := RdK.keep' hB h (by omega)
        have hx := RdL.at_ l o k hlt hl2
        have hsub := sizeL_mem hlt
        have htk := sizeL_take l k hlt
        rw [Claim.subN_sub] at hsub htk
        cases hcx : l[k] with
        | mk f t wi sub =>
        rw [hcx] at hx hsub htk
        simp only [RdC] at hx
        simp only [Claim.sub] at hsub htk
        obtain ⟨c0, c1, c2, A', c', c3, hc1, hc2, hrd⟩ := hx
        have hi0 : (0 : Int) ≤ (k : Int) := by omega
        have hi1 : (k : Int) < (l.length : Int) := by omega
        have hnew := Blk.new wr 35 #[.int .i64 f, .int .i64 t, .int .i64 wi, .slice A' sub.length c']
        have hB1 : Below wr.heap.size wr (wr.alloc (.cells #[.int .i64 f, .int .i64 t, .int .i64 wi, .slice A' sub.length c'] 35)) := (Below.refl _ _).alloc (Nat.le_refl _) _
        have hsz := IH.out sub (by omega) A' c' (wr.alloc (.cells #[.int .i64 f, .int .i64 t, .int .i64 wi, .slice A' sub.length c'] 35)) (RdK.keep' hB1 (show RdK wr A' sub from hrd)) (by unfold maxLen at hc2; omega)
        have hfin : ∀ x y : Int, x = IntKind.i64.wrap (sizeL (l.take k) + (l.length - k : Nat) : Nat) → y = IntKind.i64.wrap (sizeL sub) → wrap64 (x + y) = IntKind.i64.wrap (sizeL (l.take (k + 1)) + (l.length - (k + 1) : Nat) : Nat) := fun x y hx hy => by
          subst hx hy
          have e := wrap_add (sizeL (l.take k) + (l.length - k : Nat) : Nat) (sizeL sub)
          rw [IntKind.wrap_i64] at e
          unfold wrap64
          rw [e]
          congr 1
          rw [htk]
          omega
        obtain ⟨x, hx⟩ : ∃ x, x = IntKind.i64.wrap (sizeL (l.take k) + (l.length - k : Nat) : Nat) := ⟨_, rfl⟩
        obtain ⟨y, hy⟩ : ∃ y, y = IntKind.i64.wrap (sizeL sub) := ⟨_, rfl⟩
        have Hf := Lib.hid (hfin x y hx hy)
        rw [← hx]
        rw [← hy] at hsz
        clear hl2 h hcx hrd hnew hfin hx hy htk hsub hw0
        go_wp2_with fail
        refine hsz.mono ?_
        rintro e w2 ⟨rfl, hb2⟩
        have hB2 : Below w.heap.size w w2 := hB.trans ((hB1.trans (hb2.mono hB1.size)).mono hB.size)
        clear hsz c0 c1 c2 c3 hB hB1 hb2 hi0 hi1
        go_wp2
        go_roundw
        case rel => exact ⟨k + 1, by omega, by go_num, by rw [Hf.out], hB2⟩
        case measure => simp [intOf]; omega
      · obtain rfl : k = l.length := by omega
        rw [List.take_length, Nat.sub_self, Nat.add_zero]
        obtain ⟨x, hx⟩ : ∃ x, x = IntKind.i64.wrap (sizeL l) := ⟨_, rfl⟩
        rw [← hx]
        have Hx := Lib.hid hx
        clear hw0 hlt h hl hx
        go_wp2
        go_ret
        exact ⟨ret_int Hx.out, hB⟩
end Go.Proofs.Ytlmbffnmjfbglab
/- Plan. -/
namespace Go.Proofs.Ytlmbffnmjfbglab
open Go.ChangeShapes Go.WideShapes Go.ChangeAt Go.RowKit

/-- what Plan returns: offsets, claims, the error. -/
def planV (F : Int) (ps : List Part) : List Int × List Claim × Int :=
  if timesV F ps then (match tryR ps ps.length [] 0 with
    | .stop os e => (os, [], e)
    | .claims cl _ => if 16384 < sizeL cl then ([], [], 5) else ([], cl, 130))
  else ([], [], 2)

theorem sizeL_extend (cl : List Claim) (o j : Int) : sizeL (extend cl o j) ≤ sizeL cl + 1 := by
  unfold extend
  rcases List.eq_nil_or_concat cl with rfl | ⟨c0, ⟨f, t, w, s⟩, rfl⟩
  · simp [sizeL, Claim.subN]
  · rw [List.concat_eq_append]
    simp only [List.getLast?_append, List.getLast?_singleton, Option.some_or]
    split
    · simp [sizeL_append, sizeL, Claim.subN]
    · simp [sizeL_append, sizeL, Claim.subN]; omega
theorem prefR_size (ps : List Part) (rec : List Int → Nat → Res) (hrec : ∀ os t l t', rec os t = .claims l t' → sizeL l + t ≤ t') (os : List Int) (t : Nat) : ∀ (k : Nat) (cl : List Claim) (t' : Nat), prefR ps rec os t k = .claims cl t' → sizeL cl + t ≤ t'
  | 0, cl, t', h => by
    simp only [prefR] at h
    injection h with h1 h
    subst h1 h
    simp [sizeL]
  | k + 1, cl, t', h => by
    simp only [prefR] at h
    cases hp : prefR ps rec os t k with
    | stop a e => rw [hp] at h; cases h
    | claims cl0 t0 =>
      rw [hp] at h
      have ih := prefR_size ps rec hrec os t k cl0 t0 hp
      simp only [oneR] at h
      split at h
      · cases h
      · split at h
        · split at h
          · cases h
          · rename_i sub t1 hr
            injection h with h1 h
            subst h1 h
            have := hrec _ _ _ _ hr
            simp [sizeL_append, sizeL, Claim.subN]; omega
        · injection h with h1 h
          subst h1 h
          have := sizeL_extend cl0 k (conflP ps os k)
          omega
theorem tryR_size (ps : List Part) : ∀ (r : Nat) (os : List Int) (t : Nat) (l : List Claim) (t' : Nat), tryR ps r os t = .claims l t' → sizeL l + t ≤ t'
  | 0, _, _, _, _, h => by simp [tryR] at h
  | r + 1, os, t, l, t', h => prefR_size ps (tryR ps r) (tryR_size ps r) os t _ l t' (by simpa only [tryR] using h)
theorem assert63 (v : Value) (w : World) : (Instr.typeAssert (.iface 63 v) 20 63 true).run Try.prog w = .ok (.tuple #[v, .bool true]) w := by
  simp [Instr.typeAssert, run_underlying Try.underlying63]
theorem catch_idle (p q r : Addr) (w : World) :
    CallsD Try.prog 36 #[.pointer (some p), .pointer (some q), .pointer (some r)] .returning w fun e u' w' => e = .returned (.tuple #[]) ∧ u' = .returning ∧ w' = w := by
  refine callsD_of_wpS Try.func36 rfl fun c₀ cs hu => ?_
  simp only [Try.ntmps36, List.size_toArray, List.length_cons, List.length_nil, Nat.reduceAdd, Nat.reduceSub, Array.replicate_succ, Array.replicate_zero, List.push_toArray, List.append_toArray, List.nil_append, List.cons_append]
  apply wpS_seq
  apply wpS_region
  simp [wpOpsS, go_sem, recoverD, hu, Exit.thenS]
  refine wpS_of_wp ?_
  have hQ : ∀ a, a.defers = [] → bodyPostS Try.prog Try.f36 c₀ cs (fun e u' w' => e = Ending.returned (Value.tuple #[]) ∧ u' = FrameMode.returning ∧ w' = w) .normal a (c₀ :: cs) w := fun a ha => by
    cases c₀
    simp_all [bodyPostS, results, Try.results36]
  revert hQ
  generalize bodyPostS Try.prog Try.f36 c₀ cs (fun e u' w' => e = Ending.returned (Value.tuple #[]) ∧ u' = FrameMode.returning ∧ w' = w) = Q
  intro hQ
  clear hu
  go_wp2_with fail
  rfl
set_option maxRecDepth 100000 in
set_option maxHeartbeats 400000 in
theorem catch_stop (B : Nat) (v0 v1 v2 : Value) (A : Option Addr) (n c : Nat) (er : Int) (w : World) (older : List PanicEntry) (h0 : Blk w B 28 #[v0]) (h1 : Blk w (B + 1) 29 #[v1]) (h2 : Blk w (B + 2) 30 #[v2]) :
    CallsD Try.prog 36 #[.pointer (some ⟨B, 0, none⟩), .pointer (some ⟨B + 1, 0, none⟩), .pointer (some ⟨B + 2, 0, none⟩)] (.panicking ({ v := .iface 63 (.agg #[.slice A n c, .int .i64 er]), recovered := false } :: older)) w fun e u' w' => e = .returned (.tuple #[]) ∧ u' = .panicking ({ v := .iface 63 (.agg #[.slice A n c, .int .i64 er]), recovered := true } :: older) ∧ Gr (fun b => B ≤ b ∧ b ≤ B + 2) w w' ∧ Blk w' B 28 #[.slice A n c] ∧ Blk w' (B + 1) 29 #[.slice none 0 0] ∧ Blk w' (B + 2) 30 #[.int .i64 er] := by
  refine callsD_of_wpS Try.func36 rfl fun c₀ cs hu => ?_
  simp only [Try.ntmps36, List.size_toArray, List.length_cons, List.length_nil, Nat.reduceAdd, Nat.reduceSub, Array.replicate_succ, Array.replicate_zero, List.push_toArray, List.append_toArray, List.nil_append, List.cons_append]
  apply wpS_seq
  apply wpS_region
  simp [wpOpsS, go_sem, recoverD, hu, Exit.thenS]
  refine wpS_of_wp ?_
  have q0 := h0.cell 0
  have q1 := h1.cell 0
  have q2 := h2.cell 0
  have f0 := h0.frozen 0
  have f1 := h1.frozen 0
  have f2 := h2.frozen 0
  simp at q0 q1 q2
  have z0 := h0.lt
  have z1 := h1.lt
  have z2 := h2.lt
  have hx : Blk (w.alloc (.cells #[.slice A n c, .int .i64 er] 63)) w.heap.size 63 _ := Blk.new w 63 #[.slice A n c, .int .i64 er]
  have y0 := h0.alloc (.cells #[.slice A n c, .int .i64 er] 63)
  have y1 := h1.alloc (.cells #[.slice A n c, .int .i64 er] 63)
  have y2 := h2.alloc (.cells #[.slice A n c, .int .i64 er] 63)
  have hG := Gr.alloc (fun b => B ≤ b ∧ b ≤ B + 2) w (.cells #[.slice A n c, .int .i64 er] 63)
  obtain ⟨Q, hQe⟩ : ∃ Q : Exit → Act → World → Prop, Q = fun e a' w' => bodyPostS Try.prog Try.f36 c₀ cs
        (fun e u' w' => e = Ending.returned (Value.tuple #[]) ∧ u' = FrameMode.panicking ({ v := Value.iface 63 (Value.agg #[Value.slice A n c, Value.int IntKind.i64 er]), recovered := true } :: older) ∧
              Gr (fun b => B ≤ b ∧ b ≤ B + 2) w w' ∧ Blk w' B 28 #[Value.slice A n c] ∧ Blk w' (B + 1) 29 #[Value.slice none 0 0] ∧ Blk w' (B + 2) 30 #[Value.int IntKind.i64 er])
        e a'
        ({ fn := c₀.fn, tmps := c₀.tmps, todo := c₀.todo, defers := c₀.defers, mode := FrameMode.panicking ({ v := Value.iface 63 (Value.agg #[Value.slice A n c, Value.int IntKind.i64 er]), recovered := true } :: older),
            kind := c₀.kind, roundOf := c₀.roundOf } :: cs) w' := ⟨_, rfl⟩
  rw [← hQe]
  have hQ : ∀ a w', a.defers = [] → Gr (fun b => B ≤ b ∧ b ≤ B + 2) w w' ∧ Blk w' B 28 #[Value.slice A n c] ∧ Blk w' (B + 1) 29 #[Value.slice none 0 0] ∧ Blk w' (B + 2) 30 #[Value.int IntKind.i64 er] → Q .normal a w' := fun a w' ha hw => by
    rw [hQe]
    exact ⟨ha, _, rfl, _, (by simp [results, Try.results36]), rfl, rfl, hw⟩
  have HQ := Lib.hid hQ
  have has := fun v W => assert63 v W
  clear hQe hQ hu
  go_wp2_with fail
  clear q0 q1 q2 f0 f1 f2 has
  generalize w.heap.size = X at *
  generalize w.alloc (Obj.cells #[Value.slice A n c, Value.int IntKind.i64 er] 63) = W1 at *
  have x0 : W1.cell? ⟨X, 0, none⟩ = some (.slice A n c) := hx.cell 0
  have x1 : W1.cell? ⟨X, 1, none⟩ = some (.int .i64 er) := hx.cell 1
  have q0 : W1.cell? ⟨B, 0, none⟩ = some v0 := y0.cell 0
  have q1 : W1.cell? ⟨B + 1, 0, none⟩ = some v1 := y1.cell 0
  have q2 : W1.cell? ⟨B + 2, 0, none⟩ = some v2 := y2.cell 0
  have f0 := y0.frozen 0
  have f1 := y1.frozen 0
  have f2 := y2.frozen 0
  clear h0 h1 h2
  have n0 : ¬ B = X := by omega
  have n1 : ¬ B + 1 = X := by omega
  have n2 : ¬ B + 2 = X := by omega
  have m0 : ¬ X = B := by omega
  have m1 : ¬ X = B + 1 := by omega
  have m2 : ¬ X = B + 2 := by omega
  go_region_held3 (fun w' => w'.cell? ⟨X, 0, none⟩ = some (.slice A n c) ∧ w'.cell? ⟨X, 1, none⟩ = some (.int .i64 er)) (go_keep) (fail)
  exact HQ.out _ _ rfl ⟨(((hG.trans (Gr.setCell _ _ _ (by simp))).trans (Gr.setCell _ _ _ (by simp))).trans (Gr.setCell _ _ _ (by simp))).trans (Gr.of_below (Below.refl _ _).drew),
    (((y0.set_ 0 (.slice A n c)).far (p := ⟨B + 1, 0, none⟩) (by simp) _).far (p := ⟨B + 2, 0, none⟩) (by simp) _).drew,
    (((y1.far (p := ⟨B, 0, none⟩) (by simp) _).set_ 0 (.slice none 0 0)).far (p := ⟨B + 2, 0, none⟩) (by simp) _).drew,
    (((y2.far (p := ⟨B, 0, none⟩) (by simp) _).far (p := ⟨B + 1, 0, none⟩) (by simp) _).set_ 0 (.int .i64 er)).drew⟩

theorem Gr.below0 {X : Nat → Prop} {a b : World} (h : Gr X a b) (hx : ∀ k, k < a.heap.size → ¬ X k) : Below a.heap.size a b := ⟨h.os, h.tape, h.output, h.size, fun k hk => h.block k hk (hx k hk)⟩
/-- Plan's results, read. -/
theorem plan_res {w W : World} {tmps : Array Value} {R : Ending → World → Prop} {v1 v2 v3 : Value} (t2 : tmps[2]?.getD undef = .pointer (some ⟨w.heap.size + 1, 0, none⟩)) (t3 : tmps[3]?.getD undef = .pointer (some ⟨w.heap.size + 1 + 1, 0, none⟩)) (t4 : tmps[4]?.getD undef = .pointer (some ⟨w.heap.size + 1 + 1 + 1, 0, none⟩))
    (h1 : Blk W (w.heap.size + 1) 28 #[v1]) (h2 : Blk W (w.heap.size + 2) 29 #[v2]) (h3 : Blk W (w.heap.size + 3) 30 #[v3])
    (hR : R (.returned (.tuple #[v1, v2, v3])) W) : Leaves Try.prog Try.f16 tmps R [] .returning W := by
  have q1 : W.cell? ⟨w.heap.size + 1, 0, none⟩ = some v1 := h1.cell 0
  have q2 : W.cell? ⟨w.heap.size + 1 + 1, 0, none⟩ = some v2 := h2.cell 0
  have q3 : W.cell? ⟨w.heap.size + 1 + 1 + 1, 0, none⟩ = some v3 := h3.cell 0
  refine ⟨_, ?_, hR⟩
  simp [results, Try.results16, go_sem, t2, t3, t4, q1, q2, q3]
theorem planV_bad {F : Int} {ps : List Part} (h : timesV F ps = false) : planV F ps = ([], [], 2) := by simp [planV, h]
set_option maxRecDepth 100000 in
set_option maxHeartbeats 4000000 in
theorem plan_c (name : ByteArray) (mem F : Int) (ps : List Part) (A : Option Addr) (c : Nat) (w : World) (h : RdPart w w.heap.size A ps) (hl : ps.length * 8 ≤ 140737488355328) :
    Calls Try.prog 16 #[.agg #[.string name, .int .i64 mem, .int .i64 F, .slice A ps.length c]] w fun e w' => ∃ Ao co Ac cc, e = .returned (.tuple #[.slice Ao (planV F ps).1.length co, .slice Ac (planV F ps).2.1.length cc, .int .i64 (planV F ps).2.2]) ∧ RdInt w' w'.heap.size Ao (planV F ps).1 ∧ RdCls w' (MadeQ w.heap.size w') Ac (planV F ps).2.1 ∧ (planV F ps).2.1.length ≤ cc ∧ (planV F ps).1.length ≤ co ∧ Below w.heap.size w w' := by
  have hmf : ∀ (fn : Fn) (first cap : Array Value) (w : World), (Instr.makeFunc fn first cap).run Try.prog w = .ok (.func fn first cap) w := fun _ _ _ _ => rfl
  obtain ⟨W1, hW1⟩ : ∃ W1, W1 = (((w.alloc (.cells #[.string name, .int .i64 mem, .int .i64 F, .slice A ps.length c] 24)).alloc (.cells #[.slice none 0 0] 28)).alloc (.cells #[.slice none 0 0] 29)).alloc (.cells #[.int .i64 0] 30) := ⟨_, rfl⟩
  have hB : Below w.heap.size w W1 := by rw [hW1]; exact (((((Below.refl _ w).alloc (Nat.le_refl _) _).alloc (by simp) _).alloc (by simp; omega) _).alloc (by simp; omega) _)
  have hb0 : Blk W1 w.heap.size 24 #[.string name, .int .i64 mem, .int .i64 F, .slice A ps.length c] := by rw [hW1]; exact (((Blk.new w 24 _).alloc _).alloc _).alloc _
  have hb1 : Blk W1 (w.heap.size + 1) 28 #[.slice none 0 0] := by
    rw [hW1]
    have := ((Blk.new (w.alloc (.cells #[.string name, .int .i64 mem, .int .i64 F, .slice A ps.length c] 24)) 28 #[.slice none 0 0]).alloc (.cells #[.slice none 0 0] 29)).alloc (.cells #[.int .i64 0] 30)
    simpa only [World.size_alloc] using this
  have hb2 : Blk W1 (w.heap.size + 2) 29 #[.slice none 0 0] := by
    rw [hW1]
    have := (Blk.new ((w.alloc (.cells #[.string name, .int .i64 mem, .int .i64 F, .slice A ps.length c] 24)).alloc (.cells #[.slice none 0 0] 28)) 29 #[.slice none 0 0]).alloc (.cells #[.int .i64 0] 30)
    simpa only [World.size_alloc] using this
  have hb3 : Blk W1 (w.heap.size + 3) 30 #[.int .i64 0] := by
    rw [hW1]
    have := Blk.new (((w.alloc (.cells #[.string name, .int .i64 mem, .int .i64 F, .slice A ps.length c] 24)).alloc (.cells #[.slice none 0 0] 28)).alloc (.cells #[.slice none 0 0] 29)) 30 #[.int .i64 0]
    simpa only [World.size_alloc] using this
  go_enter_defers Try.func16, Try.ntmps16
  go_wp2_with fail
  rw [← hW1]
  clear hW1
  refine (ptimes_c name mem F ps A c W1 (h.below hB) hl).mono ?_
  rintro e W2 ⟨rfl, hb⟩
  rw [ptimes_iff]
  have hz1 : w.heap.size + 4 ≤ W1.heap.size := by have := hb3.lt; omega
  have hB2 : Below w.heap.size w W2 := hB.trans (hb.mono hB.size)
  replace hb0 := hb0.below hb (by omega)
  replace hb1 := hb1.below hb (by omega)
  replace hb2 := hb2.below hb (by omega)
  replace hb3 := hb3.below hb (by omega)
  have q00 : W2.cell? ⟨w.heap.size, 0, none⟩ = some (.string name) := hb0.cell 0
  have q01 : W2.cell? ⟨w.heap.size, 1, none⟩ = some (.int .i64 mem) := hb0.cell 1
  have q02 : W2.cell? ⟨w.heap.size, 2, none⟩ = some (.int .i64 F) := hb0.cell 2
  have q03 : W2.cell? ⟨w.heap.size, 3, none⟩ = some (.slice A ps.length c) := hb0.cell 3
  have q1 : W2.cell? ⟨w.heap.size + 1, 0, none⟩ = some (.slice none 0 0) := hb1.cell 0
  have q2 : W2.cell? ⟨w.heap.size + 1 + 1, 0, none⟩ = some (.slice none 0 0) := hb2.cell 0
  have q3 : W2.cell? ⟨w.heap.size + 1 + 1 + 1, 0, none⟩ = some (.int .i64 0) := hb3.cell 0
  have f1 := hb1.frozen 0
  have f2 : W2.frozen? ⟨w.heap.size + 1 + 1, 0, none⟩ = false := hb2.frozen 0
  have f3 : W2.frozen? ⟨w.heap.size + 1 + 1 + 1, 0, none⟩ = false := hb3.frozen 0
  cases ht : timesV F ps with
  | false =>
    have hV := Lib.hid (planV_bad ht)
    have hGz : Gr (fun b => w.heap.size ≤ b) w (((W2.setCell ⟨w.heap.size + 1, 0, none⟩ (.slice none 0 0)).setCell ⟨w.heap.size + 1 + 1, 0, none⟩ (.slice none 0 0)).setCell ⟨w.heap.size + 1 + 1 + 1, 0, none⟩ (.int .i64 2)) := (((Gr.of_below hB2).trans (Gr.setCell _ _ _ (by simp))).trans (Gr.setCell _ _ _ (by simp; omega))).trans (Gr.setCell _ _ _ (by simp; omega))
    have HB := Lib.hid (hGz.below0 fun k hk x => by omega)
    clear ht hGz hB hB2 hb h
    go_wp2_with fail
    simp only [bodyPostD]
    refine plan_res (w := w) (v1 := .slice none 0 0) (v2 := .slice none 0 0) (v3 := .int .i64 2) ?_ ?_ ?_ (((hb1.set_ 0 (.slice none 0 0)).far (p := ⟨w.heap.size + 1 + 1, 0, none⟩) (by simp) _).far (p := ⟨w.heap.size + 1 + 1 + 1, 0, none⟩) (by simp) _) (((hb2.far (p := ⟨w.heap.size + 1, 0, none⟩) (by simp) _).set_ 0 (.slice none 0 0)).far (p := ⟨w.heap.size + 1 + 1 + 1, 0, none⟩) (by simp) _)
      (((hb3.far (p := ⟨w.heap.size + 1, 0, none⟩) (by simp) _).far (p := ⟨w.heap.size + 1 + 1, 0, none⟩) (by simp) _).set_ 0 (.int .i64 2)) ?_
    · rfl
    · rfl
    · rfl
    rw [hV.out]
    exact ⟨none, 0, none, 0, rfl, fun hn => by simp at hn, fun hn => by simp at hn, Nat.le_refl _, Nat.le_refl _, HB.out⟩
  | true =>
    have hT := timesV_ok ht
    have hPT : PT ps := ⟨hT.few, fun p hp => ⟨(hT.len p hp).1, (hT.len p hp).2, (hT.per p hp).2.1⟩⟩
    have hRd := h.below hB2
    have hbs := Blk.new W2 67 #[.string name, .int .i64 mem, .int .i64 F, .slice A ps.length c, .slice none 0 0, .int .i64 0]
    have hBa : Below W2.heap.size W2 (W2.alloc (.cells #[.string name, .int .i64 mem, .int .i64 F, .slice A ps.length c, .slice none 0 0, .int .i64 0] 67)) := (Below.refl _ _).alloc (Nat.le_refl _) _
    have hSB : SB (W2.alloc (.cells #[.string name, .int .i64 mem, .int .i64 F, .slice A ps.length c, .slice none 0 0, .int .i64 0] 67)) W2.heap.size name mem F A ps c none [] 0 (0 : Nat) := ⟨hbs, hRd.below hBa, fun hn => by simp at hn, (fun b o e _ => by cases e), Nat.le_refl _⟩
    have htr := try_c W2.heap.size name mem F A ps c hPT ps.length _ none [] 0 0 hSB (fun b o e _ => by cases e) (by simp) (by omega)
    replace hb1 := hb1.below hBa hb1.lt
    replace hb2 := hb2.below hBa hb2.lt
    replace hb3 := hb3.below hBa hb3.lt
    have hz2 : w.heap.size + 4 ≤ W2.heap.size := by have := hb.size; omega
    have Htr := Lib.hid htr
    have HB := Lib.hid hB2
    have hz2' := hB2.size
    clear hSB hbs hRd hPT hT h hB hB2 hb htr
    go_wp2_with fail
    refine Htr.out.mono ?_
    rintro e W4 ⟨hgr, hc, hs⟩
    have hbl : Below W2.heap.size W2 W4 := hBa.trans ⟨hgr.os, hgr.tape, hgr.output, hgr.size, fun k hk => hgr.block k (by simp; omega) (by simp; omega)⟩
    have hB4 := HB.out.trans (hbl.mono hz2')
    replace hb1 := hb1.grown hgr (by simp; omega)
    replace hb2 := hb2.grown hgr (by simp; omega)
    replace hb3 := hb3.grown hgr (by simp; omega)
    cases hT : tryR ps ps.length [] 0 with
    | stop a er =>
      obtain ⟨A', c', hcp, rfl, hri⟩ := hs a er hT
      have hV : planV F ps = (a, [], er) := by simp [planV, ht, hT]
      refine leaves_cons (f := 36) (args := #[.pointer (some ⟨w.heap.size + 1, 0, none⟩), .pointer (some ⟨w.heap.size + 1 + 1, 0, none⟩), .pointer (some ⟨w.heap.size + 1 + 1 + 1, 0, none⟩)]) (by simp) (by simp [go_sem]) ?_
      refine (catch_stop (w.heap.size + 1) _ _ _ A' a.length c' er W4 [] hb1 hb2 hb3).mono ?_
      rintro e u' W5 ⟨rfl, rfl, hG5, k1, k2, k3⟩
      refine plan_res (w := w) (v1 := .slice A' a.length c') (v2 := .slice none 0 0) (v3 := .int .i64 er) ?_ ?_ ?_ k1 k2 k3 ?_
      · rfl
      · rfl
      · rfl
      rw [hV]
      have hB5 : Below w.heap.size w W5 := ((Gr.of_below (X := fun b => w.heap.size ≤ b) hB4).trans (hG5.mono fun k _ x => by omega)).below0 fun k hk x => by omega
      refine ⟨A', c', none, 0, rfl, fun hn => ?_, fun hn => by simp at hn, Nat.le_refl _, hcp, hB5⟩
      obtain ⟨b, o, rfl, hb, hcl⟩ := hri.1 hn
      have hlo := hri.2 b o rfl hn
      simp at hlo
      exact ⟨b, o, rfl, Nat.lt_of_lt_of_le hb hG5.size, fun i hi => hG5.cell (hcl i hi) (fun x => by simp at x; omega)⟩
    | claims cl t =>
      obtain ⟨A', c', rfl, h1, h2, h3, _⟩ := hc cl t hT
      have hsz := tryR_size ps _ _ _ _ _ hT
      have htt := tryR_tries ps _ _ _ _ _ (Nat.zero_le _) hT
      have q1 : W4.cell? ⟨w.heap.size + 1, 0, none⟩ = some (.slice none 0 0) := hb1.cell 0
      have q2 : W4.cell? ⟨w.heap.size + 1 + 1, 0, none⟩ = some (.slice none 0 0) := hb2.cell 0
      have q3 : W4.cell? ⟨w.heap.size + 1 + 1 + 1, 0, none⟩ = some (.int .i64 0) := hb3.cell 0
      have f1 := hb1.frozen 0
      have f2 : W4.frozen? ⟨w.heap.size + 1 + 1, 0, none⟩ = false := hb2.frozen 0
      have f3 : W4.frozen? ⟨w.heap.size + 1 + 1 + 1, 0, none⟩ = false := hb3.frozen 0
      have hrd : RdCls (W4.setCell ⟨w.heap.size + 1 + 1, 0, none⟩ (.slice A' cl.length c')) (MadeQ W2.heap.size (W4.setCell ⟨w.heap.size + 1 + 1, 0, none⟩ (.slice A' cl.length c'))) A' cl := h3.keep fun b ⟨g1, o, g2, g3⟩ => by
        have hne : ¬ w.heap.size + 1 + 1 = b := by simp at g1; omega
        exact ⟨fun o => World.cell?_setCell_far _ _ _ _ hne, by simp at g1; omega, o, (Below.heap_setCell _ _ _ _ (fun e => hne e.symm)).trans g2, g3⟩
      have hk : RdK (W4.setCell ⟨w.heap.size + 1 + 1, 0, none⟩ (.slice A' cl.length c')) A' cl := hrd.keep fun b ⟨_, o, g2, _⟩ => ⟨fun _ => rfl, (Array.getElem?_eq_some_iff.1 g2).1⟩
      have hsc := size_c (sizeL cl + 1) cl (by omega) A' c' _ hk (by unfold maxLen at h2; omega)
      rw [IntWalk.i64_in (sizeL cl : Int) (by omega)] at hsc
      have hG5 : Gr (fun b => w.heap.size ≤ b) w (W4.setCell ⟨w.heap.size + 1 + 1, 0, none⟩ (.slice A' cl.length c')) := (Gr.of_below hB4).trans (Gr.setCell _ _ _ (by simp; omega))
      have hV : planV F ps = if 16384 < sizeL cl then ([], [], 5) else ([], cl, 130) := by simp [planV, ht, hT]
      replace hb1 := hb1.far (p := ⟨w.heap.size + 1 + 1, 0, none⟩) (by simp) (.slice A' cl.length c')
      replace hb2 := hb2.set_ 0 (.slice A' cl.length c')
      replace hb3 := hb3.far (p := ⟨w.heap.size + 1 + 1, 0, none⟩) (by simp) (.slice A' cl.length c')
      have HRd := Lib.hid hrd
      have Hsc := Lib.hid hsc
      have HG5 := Lib.hid hG5
      have HV := Lib.hid hV
      have hz4 : W2.heap.size ≤ W4.heap.size := hbl.size
      clear hrd hsc hG5 hV h3 hk hT htt hsz hB4 hbl hc hs hgr Htr HB ht hBa
      go_wp2_with fail
      refine Hsc.out.mono ?_
      rintro e W6 ⟨rfl, hb6⟩
      replace hb1 := hb1.below hb6 hb1.lt
      replace hb2 := hb2.below hb6 hb2.lt
      replace hb3 := hb3.below hb6 hb3.lt
      have hrd6 : RdCls W6 (MadeQ w.heap.size W6) A' cl := HRd.out.keep fun b ⟨g1, o, g2, g3⟩ => by
        have e := hb6.block b (Array.getElem?_eq_some_iff.1 g2).1
        exact ⟨fun _ => World.cell?_of_block e, by omega, o, e.trans g2, g3⟩
      have hG6 : Gr (fun b => w.heap.size ≤ b) w W6 := HG5.out.trans (Gr.of_below hb6)
      have hri6 : ∀ b, MadeQ W2.heap.size W6 b → True := fun _ _ => trivial
      have hrdF : RdCls W6 (fun b => W2.heap.size ≤ b ∧ ∃ o, W6.heap[b]? = some o ∧ o.isCells = true) A' cl := HRd.out.keep fun b ⟨g1, o, g2, g3⟩ => by
        have e := hb6.block b (Array.getElem?_eq_some_iff.1 g2).1
        exact ⟨fun _ => World.cell?_of_block e, g1, o, e.trans g2, g3⟩
      have HrF := Lib.hid hrdF
      have HG6 := Lib.hid hG6
      have HzW := Lib.hid hz2
      clear hrd6 hG6 hri6 hrdF HRd HG5 hb6 Hsc q1 q2 q3 f1 f2 f3
      have q1 : W6.cell? ⟨w.heap.size + 1, 0, none⟩ = some (.slice none 0 0) := hb1.cell 0
      have q2 : W6.cell? ⟨w.heap.size + 1 + 1, 0, none⟩ = some (.slice A' cl.length c') := hb2.cell 0
      have q3 : W6.cell? ⟨w.heap.size + 1 + 1 + 1, 0, none⟩ = some (.int .i64 0) := hb3.cell 0
      have f1 := hb1.frozen 0
      have f2 : W6.frozen? ⟨w.heap.size + 1 + 1, 0, none⟩ = false := hb2.frozen 0
      have f3 : W6.frozen? ⟨w.heap.size + 1 + 1 + 1, 0, none⟩ = false := hb3.frozen 0
      by_cases hgt : 16384 < sizeL cl
      · have hd : decide ((sizeL cl : Int) > 16384) = true := by simp; omega
        have hd2 : ((16384 : Int) < (sizeL cl : Int)) := by omega
        have hV := HV.out
        rw [if_pos hgt] at hV
        replace HV := Lib.hid hV
        clear hV hgt h1 h2 hz1 hz2 hz2' hz4
        go_wp2_with fail
        simp only [bodyPostD]
        refine leaves_cons (f := 36) (args := #[.pointer (some ⟨w.heap.size + 1, 0, none⟩), .pointer (some ⟨w.heap.size + 1 + 1, 0, none⟩), .pointer (some ⟨w.heap.size + 1 + 1 + 1, 0, none⟩)]) (by simp) (by simp [go_sem]) ?_
        refine (catch_idle _ _ _ _).mono ?_
        rintro e u' W7 ⟨rfl, rfl, rfl⟩
        refine plan_res (w := w) (v1 := .slice none 0 0) (v2 := .slice none 0 0) (v3 := .int .i64 5) ?_ ?_ ?_ (((hb1.set_ 0 (.slice none 0 0)).far (p := ⟨w.heap.size + 1 + 1, 0, none⟩) (by simp) _).far (p := ⟨w.heap.size + 1 + 1 + 1, 0, none⟩) (by simp) _) (((hb2.far (p := ⟨w.heap.size + 1, 0, none⟩) (by simp) _).set_ 0 (.slice none 0 0)).far (p := ⟨w.heap.size + 1 + 1 + 1, 0, none⟩) (by simp) _)
          (((hb3.far (p := ⟨w.heap.size + 1, 0, none⟩) (by simp) _).far (p := ⟨w.heap.size + 1 + 1, 0, none⟩) (by simp) _).set_ 0 (.int .i64 5)) ?_
        · rfl
        · rfl
        · rfl
        rw [HV.out]
        exact ⟨none, 0, none, 0, rfl, fun hn => by simp at hn, fun hn => by simp at hn, Nat.le_refl _, Nat.le_refl _, ((((HG6.out).trans (Gr.setCell _ _ _ (by simp))).trans (Gr.setCell _ _ _ (by simp; omega))).trans (Gr.setCell _ _ _ (by simp; omega))).below0 fun k hk x => by omega⟩
      · have hd : decide ((sizeL cl : Int) > 16384) = false := by simp; omega
        have hd2 : ¬ ((16384 : Int) < (sizeL cl : Int)) := by omega
        have hV := HV.out
        rw [if_neg hgt] at hV
        replace HV := Lib.hid hV
        have H1 := Lib.hid h1
        clear hV hgt h1 h2 hz1 hz2 hz2' hz4
        go_wp2_with fail
        have hk1 : ((W6.setCell ⟨w.heap.size + 1, 0, none⟩ (.slice none 0 0)).setCell ⟨w.heap.size + 1 + 1, 0, none⟩ (.slice A' cl.length c')).cell? ⟨w.heap.size + 1 + 1, 0, none⟩ = some (.slice A' cl.length c') := ((hb2.far (p := ⟨w.heap.size + 1, 0, none⟩) (by simp) (.slice none 0 0)).set_ 0 (.slice A' cl.length c')).cell 0
        have hk2 : (((W6.setCell ⟨w.heap.size + 1, 0, none⟩ (.slice none 0 0)).setCell ⟨w.heap.size + 1 + 1, 0, none⟩ (.slice A' cl.length c')).setCell ⟨w.heap.size + 1 + 1 + 1, 0, none⟩ (.int .i64 130)).cell? ⟨w.heap.size + 1 + 1, 0, none⟩ = some (.slice A' cl.length c') := (((hb2.far (p := ⟨w.heap.size + 1, 0, none⟩) (by simp) (.slice none 0 0)).set_ 0 (.slice A' cl.length c')).far (p := ⟨w.heap.size + 1 + 1 + 1, 0, none⟩) (by simp) (.int .i64 130)).cell 0
        go_region_held3 (fun w' => w'.cell? ⟨w.heap.size + 1 + 1, 0, none⟩ = some (.slice A' cl.length c')) (first | (go_keep; done) | (with_reducible exact hk1) | (with_reducible exact hk2) | (rw [World.cell?_drew]; with_reducible exact hk1) | (rw [World.cell?_drew]; with_reducible exact hk2)) (fail)
        refine nameX fun W7 hW7 => ?_
        have e1 : Blk W7 (w.heap.size + 1) 28 #[.slice none 0 0] := by rw [hW7]; exact (((hb1.set_ 0 (.slice none 0 0)).far (p := ⟨w.heap.size + 1 + 1, 0, none⟩) (by simp) _).far (p := ⟨w.heap.size + 1 + 1 + 1, 0, none⟩) (by simp) _).drew
        have e2 : Blk W7 (w.heap.size + 2) 29 #[.slice A' cl.length c'] := by rw [hW7]; exact (((hb2.far (p := ⟨w.heap.size + 1, 0, none⟩) (by simp) _).set_ 0 (.slice A' cl.length c')).far (p := ⟨w.heap.size + 1 + 1 + 1, 0, none⟩) (by simp) _).drew
        have e3 : Blk W7 (w.heap.size + 3) 30 #[.int .i64 130] := by rw [hW7]; exact (((hb3.far (p := ⟨w.heap.size + 1, 0, none⟩) (by simp) _).far (p := ⟨w.heap.size + 1 + 1, 0, none⟩) (by simp) _).set_ 0 (.int .i64 130)).drew
        have hG7 : Gr (fun b => b = w.heap.size + 1 ∨ b = w.heap.size + 2 ∨ b = w.heap.size + 3) W6 W7 := by rw [hW7]; exact (((Gr.setCell _ _ _ (by simp)).trans (Gr.setCell _ _ _ (by simp))).trans (Gr.setCell _ _ _ (by simp))).trans (Gr.of_below (Below.refl _ _).drew)
        have hrd7 : RdCls W7 (MadeQ w.heap.size W7) A' cl := HrF.out.keep fun b ⟨g1, o, g2, g3⟩ => by
          have e := hG7.block b (Array.getElem?_eq_some_iff.1 g2).1 (by have := HzW.out; omega)
          exact ⟨fun _ => World.cell?_of_block e, by have := HzW.out; omega, o, e.trans g2, g3⟩
        have HR := Lib.hid hrd7
        have HB7 := Lib.hid ((HG6.out.trans (hG7.mono fun k _ x => by omega)).below0 fun k hk x => by omega)
        clear hrd7 hG7 hW7 hk1 hk2 HrF HG6 hb1 hb2 hb3 q1 q2 q3 f1 f2 f3
        go_wp2_with fail
        simp only [bodyPostD]
        refine leaves_cons (f := 36) (args := #[.pointer (some ⟨w.heap.size + 1, 0, none⟩), .pointer (some ⟨w.heap.size + 1 + 1, 0, none⟩), .pointer (some ⟨w.heap.size + 1 + 1 + 1, 0, none⟩)]) (by simp) (by simp [go_sem]) ?_
        refine (catch_idle _ _ _ _).mono ?_
        rintro e u' W8 ⟨rfl, rfl, rfl⟩
        refine plan_res (w := w) (v1 := .slice none 0 0) (v2 := .slice A' cl.length c') (v3 := .int .i64 130) ?_ ?_ ?_ e1 e2 e3 ?_
        · rfl
        · rfl
        · rfl
        rw [HV.out]
        exact ⟨none, 0, A', c', rfl, fun hn => by simp at hn, HR.out, H1.out, Nat.le_refl _, HB7.out⟩
end Go.Proofs.Ytlmbffnmjfbglab
/- Equality of ints and of claims: SameInts, SameClaims, SameClaim. -/
namespace Go.Proofs.Ytlmbffnmjfbglab
open Go.ChangeShapes Go.WideShapes Go.ChangeAt Go.RowKit

mutual
def Claim.eqB : Claim → Claim → Bool | .mk f t w s, .mk f' t' w' s' => f == f' && (t == t' && (w == w' && eqL s s'))
def eqL : List Claim → List Claim → Bool
  | [], [] => true
  | x :: r, y :: q => x.eqB y && eqL r q
  | _, _ => false
end
mutual
theorem Claim.eqB_iff : ∀ (x y : Claim), x.eqB y = true ↔ x = y
  | .mk f t w s, .mk f' t' w' s' => by simp [Claim.eqB, eqL_iff s s']
theorem eqL_iff : ∀ (l m : List Claim), eqL l m = true ↔ l = m
  | [], [] => by simp [eqL]
  | [], _ :: _ => by simp [eqL]
  | _ :: _, [] => by simp [eqL]
  | x :: r, y :: q => by simp [eqL, Claim.eqB_iff x y, eqL_iff r q]
end
theorem eqL_no {l m : List Claim} {k : Nat} {hk : k < l.length} {hk' : k < m.length} (h : l[k].eqB m[k] = false) : eqL l m = false := by
  cases e : eqL l m with
  | false => rfl
  | true => rw [eqL_iff] at e; subst e; rw [(Claim.eqB_iff _ _).2 rfl] at h; cases h
theorem eqL_yes {l m : List Claim} (hlm : l.length = m.length) (h : ∀ j (h : j < l.length) (h' : j < m.length), l[j].eqB m[j] = true) : eqL l m = true := by
  rw [eqL_iff]
  exact List.ext_getElem hlm fun i h1 h2 => (Claim.eqB_iff _ _).1 (h i h1 h2)

set_option maxRecDepth 100000 in
set_option maxHeartbeats 2000000 in
theorem sameInts_c (l m : List Int) (A A' : Option Addr) (c c' : Nat) (w : World) (h : RdInt w w.heap.size A l) (h' : RdInt w w.heap.size A' m) (hl : l.length ≤ 9223372036854775807) (hm : m.length ≤ 9223372036854775807) :
    Calls Try.prog 30 #[.slice A l.length c, .slice A' m.length c'] w fun e w' => e = .returned (.bool (decide (l = m))) ∧ Below w.heap.size w w' := by
  by_cases hlm : l.length = m.length
  · have hne : ((l.length : Int) != (m.length : Int)) = false := by simp [hlm]
    have Hlm := Lib.hid hlm
    clear hlm
    go_enter Try.func30, Try.ntmps30
    go_wp2
    go_loopw [5] (fun i wr => ∃ k : Nat, k ≤ l.length ∧ i = .int .i64 k ∧ Below w.heap.size w wr ∧ Hid (∀ j (h : j < l.length) (h' : j < m.length), j < k → l[j] = m[j])) (fun i _ => l.length - (intOf i).toNat)
    case atStart => exact ⟨0, Nat.zero_le _, rfl, Below.refl _ _, fun j _ _ h => absurd h (by omega)⟩
    case round =>
      obtain ⟨k, hk, rfl, hB, hall⟩ := hrel
      by_cases hlt : k < l.length
      · have hltm : k < m.length := by have := Hlm.out; omega
        obtain ⟨b, o, rfl, hb, hc⟩ := h.below hB (by omega)
        have c0 := hc k hlt
        obtain ⟨b', o', rfl, hb', hc'⟩ := h'.below hB (by omega)
        have d0 := hc' k hltm
        clear hc h hc' h'
        have hi0 : (0 : Int) ≤ (k : Int) := by omega
        have hi1 : (k : Int) < (l.length : Int) := by omega
        have hi2 : (k : Int) < (m.length : Int) := by omega
        by_cases hq : l[k] = m[k]
        · have Hnext : Hid (∀ j (h : j < l.length) (h' : j < m.length), j < k + 1 → l[j] = m[j]) := fun j hj hj' hjk => by
            by_cases e : j = k
            · subst e; exact hq
            · exact hall.out j hj hj' (by omega)
          have hqd : (l[k] != m[k]) = false := by simp [hq]
          clear hall hq
          generalize l[k] = r at c0 hqd
          generalize m[k] = s at d0 hqd
          go_wp2
          go_quiet (fail)
          go_wp2
          go_roundw
          case rel => exact ⟨k + 1, by omega, by go_num, below_drewN hB _, Hnext⟩
          case measure => simp [intOf]; omega
        · have Hno := Lib.hid (show decide (l = m) = false from decide_eq_false fun e => hq (by subst e; rfl))
          have hqd : (l[k] != m[k]) = true := by simp [hq]
          clear hall hq
          generalize l[k] = r at c0 hqd
          generalize m[k] = s at d0 hqd
          go_wp2
          go_quiet (fail)
          go_wp2
          go_ret
          exact ⟨ret_bool Hno.out.symm, below_drewN hB _⟩
      · have Hyes := Lib.hid (show decide (l = m) = true from decide_eq_true (List.ext_getElem Hlm.out fun j hj hj' => hall.out j hj hj' (by omega)))
        clear hall
        go_wp2
        go_ret
        exact ⟨ret_bool Hyes.out.symm, hB⟩
  · have hne : ((l.length : Int) != (m.length : Int)) = true := by simp; omega
    have Hno : Hid (decide (l = m) = false) := decide_eq_false fun e => hlm (by rw [e])
    clear hlm
    go_enter Try.func30, Try.ntmps30
    go_wp2
    go_ret
    exact ⟨ret_bool Hno.out.symm, Below.refl _ _⟩

set_option maxRecDepth 100000 in
set_option maxHeartbeats 2000000 in
theorem sameClaim_c (f t wi f' t' wi' : Int) (s s' : List Claim) (A A' : Option Addr) (c c' : Nat) (w : World)
    (ih : ∀ W, Below w.heap.size w W → Calls Try.prog 31 #[.slice A s.length c, .slice A' s'.length c'] W fun e W' => e = .returned (.bool (eqL s s')) ∧ Below W.heap.size W W') :
    Calls Try.prog 58 #[.agg #[.int .i64 f, .int .i64 t, .int .i64 wi, .slice A s.length c], .agg #[.int .i64 f', .int .i64 t', .int .i64 wi', .slice A' s'.length c']] w fun e w' => e = .returned (.bool (f == f' && (t == t' && (wi == wi' && eqL s s')))) ∧ Below w.heap.size w w' := by
  obtain ⟨W1, hW1⟩ : ∃ W1, W1 = (w.alloc (.cells #[.int .i64 f, .int .i64 t, .int .i64 wi, .slice A s.length c] 35)).alloc (.cells #[.int .i64 f', .int .i64 t', .int .i64 wi', .slice A' s'.length c'] 35) := ⟨_, rfl⟩
  have hB : Below w.heap.size w W1 := by rw [hW1]; exact ((Below.refl _ w).alloc (Nat.le_refl _) _).alloc (by simp) _
  have hih := ih W1 hB
  have HB := Lib.hid hB
  clear ih hB
  rw [hW1] at hih
  generalize eqL s s' = q at *
  cases h1 : f == f' with
  | false =>
    go_enter Try.func58, Try.ntmps58
    go_wp2_with fail
    go_ret
    exact ⟨rfl, hW1 ▸ HB.out⟩
  | true =>
    cases h2 : t == t' with
    | false =>
      go_enter Try.func58, Try.ntmps58
      go_wp2_with fail
      go_ret
      exact ⟨rfl, hW1 ▸ HB.out⟩
    | true =>
      cases h3 : wi == wi' with
      | false =>
        go_enter Try.func58, Try.ntmps58
        go_wp2_with fail
        go_ret
        exact ⟨rfl, hW1 ▸ HB.out⟩
      | true =>
        go_enter Try.func58, Try.ntmps58
        go_wp2_with fail
        refine hih.mono ?_
        rintro e w2 ⟨rfl, hb⟩
        rw [← hW1] at hb
        have hB2 := HB.out.trans (hb.mono HB.out.size)
        clear hih hW1 hb
        go_wp2_with fail
        go_ret
        exact ⟨by simp, hB2⟩

/-- claims of blocks that a claim's cells name. -/
theorem RdC.open' {w : World} {Q : Nat → Prop} {b o : Nat} {x : Claim} (h : RdC w Q b o x) : w.cell? ⟨b, o, none⟩ = some (.int .i64 x.frm) ∧ w.cell? ⟨b, o + 1, none⟩ = some (.int .i64 x.to) ∧ w.cell? ⟨b, o + 2, none⟩ = some (.int .i64 x.wth) ∧
    ∃ A c, w.cell? ⟨b, o + 3, none⟩ = some (.slice A x.sub.length c) ∧ x.sub.length ≤ c ∧ c ≤ maxLen ∧ RdCls w Q A x.sub := by
  cases x with
  | mk f t wi sub => simp only [RdC] at h; exact h
theorem Claim.eqB_eq (x y : Claim) : x.eqB y = (x.frm == y.frm && (x.to == y.to && (x.wth == y.wth && eqL x.sub y.sub))) := by cases x; cases y; rfl

set_option maxRecDepth 100000 in
set_option maxHeartbeats 2000000 in
theorem sameClaims_c : ∀ (N : Nat) (l m : List Claim), sizeL l < N → ∀ (A A' : Option Addr) (c c' : Nat) (w : World), RdK w A l → RdK w A' m → l.length ≤ 9223372036854775807 → m.length ≤ 9223372036854775807 →
    Calls Try.prog 31 #[.slice A l.length c, .slice A' m.length c'] w fun e w' => e = .returned (.bool (eqL l m)) ∧ Below w.heap.size w w' := by
  intro N
  induction N with
  | zero => intro l m hl; omega
  | succ N ih =>
    intro l m hN A A' c c' w h h' hl hm
    have IH := Lib.hid ih
    clear ih
    by_cases hlm : l.length = m.length
    · have hne : ((l.length : Int) != (m.length : Int)) = false := by simp [hlm]
      have Hlm := Lib.hid hlm
      clear hlm
      go_enter Try.func31, Try.ntmps31
      go_wp2
      go_loopw [5] (fun i wr => ∃ k : Nat, k ≤ l.length ∧ i = .int .i64 k ∧ Below w.heap.size w wr ∧ Hid (∀ j (h : j < l.length) (h' : j < m.length), j < k → l[j].eqB m[j] = true)) (fun i _ => l.length - (intOf i).toNat)
      case atStart => exact ⟨0, Nat.zero_le _, rfl, Below.refl _ _, fun j _ _ h => absurd h (by omega)⟩
      case round =>
        obtain ⟨k, hk, rfl, hB, hall⟩ := hrel
        by_cases hlt : k < l.length
        · have hltm : k < m.length := by have := Hlm.out; omega
          obtain ⟨b, o, rfl, hb, hc⟩ := RdK.keep' hB h (by omega)
          obtain ⟨c0, c1, c2, As, cs, c3, hs1, hs2, hsr⟩ := (RdL.at_ l o k hlt hc).open'
          obtain ⟨b', o', rfl, hb', hc'⟩ := RdK.keep' hB h' (by omega)
          obtain ⟨d0, d1, d2, At, ct, d3, ht1, ht2, htr⟩ := (RdL.at_ m o' k hltm hc').open'
          have hsz := sizeL_mem hlt
          rw [Claim.subN_sub] at hsz
          have hcl : ∀ y : Ext wr, Calls Try.prog 58 #[.agg #[.int .i64 l[k].frm, .int .i64 l[k].to, .int .i64 l[k].wth, .slice As l[k].sub.length cs], .agg #[.int .i64 m[k].frm, .int .i64 m[k].to, .int .i64 m[k].wth, .slice At m[k].sub.length ct]] y.w fun e w' => e = .returned (.bool (l[k].eqB m[k])) ∧ Below y.w.heap.size y.w w' := fun y => by
            rw [Claim.eqB_eq]
            exact sameClaim_c _ _ _ _ _ _ _ _ _ _ _ _ y.w fun W hW => IH.out _ _ (by omega) _ _ _ _ W (RdK.keep' hW (RdK.keep' y.h hsr)) (RdK.keep' hW (RdK.keep' y.h htr)) (by unfold maxLen at hs2; omega) (by unfold maxLen at ht2; omega)
          have hec := ext_cell wr
          have hi0 : (0 : Int) ≤ (k : Int) := by omega
          have hi1 : (k : Int) < (l.length : Int) := by omega
          have hi2 : (k : Int) < (m.length : Int) := by omega
          have hno : l[k].eqB m[k] = false → eqL l m = false := fun h => eqL_no h
          have hnx : l[k].eqB m[k] = true → (∀ j (h : j < l.length) (h' : j < m.length), j < k + 1 → l[j].eqB m[j] = true) := fun hq j hj hj' hjk => by
            by_cases e : j = k
            · subst e; exact hq
            · exact hall.out j hj hj' (by omega)
          have HNo := Lib.hid hno
          have HNx := Lib.hid hnx
          have HB := Lib.hid hB
          clear hc h hc' h' hsr htr hsz hall hs1 hs2 ht1 ht2 hno hnx hB
          generalize l[k].frm = x0 at *
          generalize l[k].to = x1 at *
          generalize l[k].wth = x2 at *
          generalize l[k].sub.length = x3 at *
          generalize m[k].frm = y0 at *
          generalize m[k].to = y1 at *
          generalize m[k].wth = y2 at *
          generalize m[k].sub.length = y3 at *
          generalize l[k].eqB m[k] = q at *
          go_wp2_with fail
          refine wp_region_ext (by kernel_rfl) (by kernel_rfl) ?_
          repeat (go_big_quiet_step ((go_at_call 58; with_reducible exact ext_call (hcl _))))
          refine wpQuiet_nil ?_
          intro _ hw'
          obtain ⟨xx, hw''⟩ := hw'
          subst hw''
          have hB2 : Below w.heap.size w xx.w := HB.out.trans (xx.h.mono HB.out.size)
          clear hec hcl c0 c1 c2 c3 d0 d1 d2 d3 HB
          generalize xx.w = w3 at hB2 ⊢
          cases q with
          | true =>
            have Hnext := Lib.hid (HNx.out rfl)
            clear HNx HNo
            go_wp2
            go_roundw
            case rel => exact ⟨k + 1, by omega, by go_num, hB2, Hnext⟩
            case measure => simp [intOf]; omega
          | false =>
            have Hno := Lib.hid (HNo.out rfl)
            clear HNx HNo
            go_wp2
            go_ret
            exact ⟨ret_bool Hno.out.symm, hB2⟩
        · have Hyes := Lib.hid (eqL_yes Hlm.out fun j hj hj' => hall.out j hj hj' (by omega))
          clear hall
          go_wp2
          go_ret
          exact ⟨ret_bool Hyes.out.symm, hB⟩
    · have hne : ((l.length : Int) != (m.length : Int)) = true := by simp; omega
      have Hno : Hid (eqL l m = false) := by
        unfold Hid
        cases e : eqL l m with
        | false => rfl
        | true => rw [eqL_iff] at e; subst e; exact absurd rfl hlm
      clear hlm
      go_enter Try.func31, Try.ntmps31
      go_wp2
      go_ret
      exact ⟨ret_bool Hno.out.symm, Below.refl _ _⟩
end Go.Proofs.Ytlmbffnmjfbglab
/- prefix, Conflict, Fits. -/
namespace Go.Proofs.Ytlmbffnmjfbglab
open Go.ChangeShapes Go.WideShapes Go.ChangeAt Go.RowKit

/-- the greatest offset of a partition. -/
def lastP (ps : List Part) (k : Nat) : Int := (ps.getD k default).period - (ps.getD k default).length
/-- offset k is possible. -/
def offOk (ps : List Part) (os : List Int) (k : Nat) : Bool := decide (0 ≤ os.getD k 0) && decide (os.getD k 0 ≤ lastP ps k)
def prefixOk (F : Int) (ps : List Part) (os : List Int) : Bool := decide (os.length ≤ ps.length) && (timesV F ps && (List.range os.length).all fun k => offOk ps os k)
theorem prefixOk_no {F : Int} {ps : List Part} {os : List Int} {k : Nat} (hk : k < os.length) (h : offOk ps os k = false) : prefixOk F ps os = false := by
  unfold prefixOk
  rw [show (List.range os.length).all (fun k => offOk ps os k) = false by
    rw [List.all_eq_false]; exact ⟨k, by simpa using hk, by simp [h]⟩]
  simp

theorem ret_pb {p : Addr} {a b : Bool} (h : a = b) : Ending.returned (.tuple #[.pointer (some p), .bool a]) = .returned (.tuple #[.pointer (some p), .bool b]) := by rw [h]

set_option maxRecDepth 100000 in
set_option maxHeartbeats 2000000 in
theorem prefix_c (name : ByteArray) (mem F : Int) (ps : List Part) (A : Option Addr) (c : Nat) (os : List Int) (Ao : Option Addr) (co : Nat) (w : World) (h : RdPart w w.heap.size A ps) (ho : RdInt w w.heap.size Ao os) (hcap : os.length ≤ co) (hl : ps.length * 8 ≤ 140737488355328) (hlo : os.length ≤ 9223372036854775807) :
    Calls Try.prog 40 #[.agg #[.string name, .int .i64 mem, .int .i64 F, .slice A ps.length c], .slice Ao os.length co] w fun e w' => ∃ Bs, e = .returned (.tuple #[.pointer (some ⟨Bs, 0, none⟩), .bool (prefixOk F ps os)]) ∧ w.heap.size ≤ Bs ∧ SB w' Bs name mem F A ps c Ao os co 0 ∧ Below w.heap.size w w' := by
  obtain ⟨W1, hW1⟩ : ∃ W1, W1 = (w.alloc (.cells #[.string name, .int .i64 mem, .int .i64 F, .slice A ps.length c] 24)).alloc (.cells #[.string name, .int .i64 mem, .int .i64 F, .slice A ps.length c, .slice Ao os.length co, .int .i64 0] 67) := ⟨_, rfl⟩
  have hB : Below w.heap.size w W1 := by rw [hW1]; exact ((Below.refl _ w).alloc (Nat.le_refl _) _).alloc (by simp) _
  have hb0 : Blk W1 w.heap.size 24 #[.string name, .int .i64 mem, .int .i64 F, .slice A ps.length c] := by rw [hW1]; exact (Blk.new w 24 _).alloc _
  have hSB : SB W1 (w.heap.size + 1) name mem F A ps c Ao os co 0 := by
    refine ⟨?_, h.below hB, ho.below hB, fun b o e hn => ?_, hcap⟩
    · rw [hW1]
      have := Blk.new (w.alloc (.cells #[.string name, .int .i64 mem, .int .i64 F, .slice A ps.length c] 24)) 67 #[.string name, .int .i64 mem, .int .i64 F, .slice A ps.length c, .slice Ao os.length co, .int .i64 0]
      simpa only [World.size_alloc] using this
    · obtain ⟨b', o', e', hb, _⟩ := ho hn
      rw [e] at e'; cases e'
      omega
  have hpt := ptimes_c name mem F ps A c W1 (h.below hB) hl
  rw [ptimes_iff] at hpt
  have q0 : W1.cell? ⟨w.heap.size, 0, none⟩ = some (.string name) := hb0.cell 0
  have q1 : W1.cell? ⟨w.heap.size, 1, none⟩ = some (.int .i64 mem) := hb0.cell 1
  have q2 : W1.cell? ⟨w.heap.size, 2, none⟩ = some (.int .i64 F) := hb0.cell 2
  have q3 : W1.cell? ⟨w.heap.size, 3, none⟩ = some (.slice A ps.length c) := hb0.cell 3
  have HSB := Lib.hid hSB
  have HB := Lib.hid hB
  clear hSB hb0
  by_cases hlen : os.length ≤ ps.length
  · have hd : decide ((os.length : Int) > (ps.length : Int)) = false := by simp; omega
    have hd2 : ¬ ((ps.length : Int) < (os.length : Int)) := by omega
    cases ht : timesV F ps with
    | false =>
      rw [ht] at hpt
      have Hv := Lib.hid (show prefixOk F ps os = false by simp [prefixOk, ht])
      clear h ho hB
      rw [hW1] at hpt q0 q1 q2 q3
      go_enter Try.func40, Try.ntmps40
      go_wp2_with fail
      refine hpt.mono ?_
      rintro e W2 ⟨rfl, hb⟩
      rw [← hW1] at hb
      have hS2 := HSB.out.next hb
      have hB2 := HB.out.trans (hb.mono HB.out.size)
      clear hpt hW1 q0 q1 q2 q3 hb
      go_wp2_with fail
      refine bodyPost_ret (v := .tuple #[.pointer (some ⟨w.heap.size + 1, 0, none⟩), .bool false]) (by simp [results, Try.results40, go_sem]) rfl ⟨w.heap.size + 1, ret_pb Hv.out.symm, by omega, hS2, hB2⟩
    | true =>
      rw [ht] at hpt
      have hT := timesV_ok ht
      have HT := Lib.hid hT
      clear h ho hB
      rw [hW1] at hpt q0 q1 q2 q3
      have Ht := Lib.hid ht
      have Hlen := Lib.hid hlen
      clear ht hT hlen
      go_enter Try.func40, Try.ntmps40
      go_wp2_with fail
      refine hpt.mono ?_
      rintro e W2 ⟨rfl, hb⟩
      rw [← hW1] at hb
      have hS2 := HSB.out.next hb
      have hB2 := HB.out.trans (hb.mono HB.out.size)
      clear hpt hW1 q0 q1 q2 q3 hb
      have hzb : w.heap.size ≤ w.heap.size + 1 := by omega
      generalize w.heap.size + 1 = Bs at *
      go_wp2_with fail
      go_loopw [27] (fun i wr => ∃ k : Nat, k ≤ os.length ∧ i = .int .i64 k ∧ Below w.heap.size w wr ∧ Hid (SB wr Bs name mem F A ps c Ao os co 0) ∧ Hid (∀ j, j < k → offOk ps os j = true)) (fun i _ => os.length - (intOf i).toNat)
      case atStart => exact ⟨0, Nat.zero_le _, rfl, hB2, hS2, fun j h => absurd h (by omega)⟩
      case round =>
        obtain ⟨k, hk, rfl, hBr, hSr, hall⟩ := hrel
        clear hB2 hS2
        by_cases hlt : k < os.length
        · obtain ⟨b, o, rfl, hb, hc⟩ := hSr.out.of (by omega)
          have c0 := hc k hlt
          have hi0 : (0 : Int) ≤ (k : Int) := by omega
          have hi1 : (k : Int) < (os.length : Int) := by omega
          have hkp : k < ps.length := by have := Hlen.out; omega
          have hper := HT.out.per ps[k] (List.getElem_mem _)
          have hlen' := HT.out.len ps[k] (List.getElem_mem _)
          have hla := last_c hSr.out k hkp (by omega) (by omega) (by omega) (by omega)
          have hlp : lastP ps k = ps[k].period - ps[k].length := by simp [lastP, hkp]
          have hok : offOk ps os k = (decide (0 ≤ os[k]) && decide (os[k] ≤ ps[k].period - ps[k].length)) := by simp [offOk, hlp, hlt]
          have hno : offOk ps os k = false → prefixOk F ps os = false := prefixOk_no hlt
          have hnx : offOk ps os k = true → ∀ j, j < k + 1 → offOk ps os j = true := fun hq j hj => by
            by_cases e : j = k
            · subst e; exact hq
            · exact hall.out j (by omega)
          rw [hok] at hno hnx
          clear hc hall hper hlen' hlp hok
          generalize ps[k].period - ps[k].length = la at *
          generalize os[k] = x at *
          by_cases hx : x < 0
          · have hxd : decide (x < 0) = true := decide_eq_true hx
            have Hno := Lib.hid (hno (by simp; omega))
            clear hno hnx hla
            go_wp2_with fail
            refine bodyPost_ret (v := .tuple #[.pointer (some ⟨Bs, 0, none⟩), .bool false]) (by simp [results, Try.results40, go_sem]) rfl ⟨Bs, ret_pb Hno.out.symm, hzb, hSr.out, hBr⟩
          · have hxd : decide (x < 0) = false := decide_eq_false hx
            by_cases hg : la < x
            · have hgd : decide (x > la) = true := decide_eq_true hg
              have Hno := Lib.hid (hno (by simp; omega))
              clear hno hnx
              go_wp2_with fail
              refine hla.mono ?_
              rintro e w3 ⟨rfl, nq, rfl⟩
              have hS3 := hSr.out.next (below_drewN (Below.refl _ _) nq)
              have hB3 := below_drewN hBr nq
              clear hla c0
              go_wp2_with fail
              refine bodyPost_ret (v := .tuple #[.pointer (some ⟨Bs, 0, none⟩), .bool false]) (by simp [results, Try.results40, go_sem]) rfl ⟨Bs, ret_pb Hno.out.symm, hzb, hS3, hB3⟩
            · have hgd : decide (x > la) = false := decide_eq_false hg
              have Hnx := Lib.hid (hnx (by simp; omega))
              clear hno hnx
              go_wp2_with fail
              refine hla.mono ?_
              rintro e w3 ⟨rfl, nq, rfl⟩
              have hS3 := hSr.out.next (below_drewN (Below.refl _ _) nq)
              have hB3 := below_drewN hBr nq
              clear hla c0
              go_wp2_with fail
              go_roundw
              case rel => exact ⟨k + 1, by omega, by go_num, hB3, hS3, Hnx.out⟩
              case measure => simp [intOf]; omega
        · have Hyes := Lib.hid (show prefixOk F ps os = true by
            have h1 := Hlen.out
            have h2 := Ht.out
            simp only [prefixOk, h2, Bool.true_and, Bool.and_eq_true, decide_eq_true_eq, List.all_eq_true, List.mem_range]
            exact ⟨h1, fun j hj => hall.out j (by omega)⟩)
          have hSr := hSr.out
          have HS := Lib.hid hSr
          clear hall hSr
          go_wp2_with fail
          refine bodyPost_ret (v := .tuple #[.pointer (some ⟨Bs, 0, none⟩), .bool true]) (by simp [results, Try.results40, go_sem]) rfl ⟨Bs, ret_pb Hyes.out.symm, hzb, HS.out, hBr⟩
  · have hd : decide ((os.length : Int) > (ps.length : Int)) = true := by simp; omega
    have hd2 : ((ps.length : Int) < (os.length : Int)) := by omega
    have Hv := Lib.hid (show prefixOk F ps os = false by simp [prefixOk, hlen])
    clear h ho hB hpt hlen
    rw [hW1] at q0 q1 q2 q3
    go_enter Try.func40, Try.ntmps40
    go_wp2_with fail
    refine bodyPost_ret (v := .tuple #[.pointer (some ⟨w.heap.size + 1, 0, none⟩), .bool false]) (by simp [results, Try.results40, go_sem]) rfl ⟨w.heap.size + 1, ret_pb Hv.out.symm, by omega, hW1 ▸ HSB.out, hW1 ▸ HB.out⟩
end Go.Proofs.Ytlmbffnmjfbglab
