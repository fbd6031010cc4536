/- Meet. -/
import Derived.Test.YtlmbffnmjfbglaaW4
namespace Go.Proofs.Ytlmbffnmjfbglaa
open Go.ChangeShapes Go.WideShapes Go.ChangeAt Go.RowKit

attribute [local go_sem] Oper.semAt_some

theorem wide_call {P : Program} {f n : Nat} {args : Array Value} {w : World} {R R' : Ending → World → Prop} (h : Calls P f args w R) (hm : ∀ e w', R e w' → R' e w') : Fence.wide.fn f ∧ CallsIn Fence.wide n P f args w R' :=
  ⟨trivial, (callsIn_wide.2 h).mono hm⟩
theorem round_call {P : Program} {f n l : Nat} {args : Array Value} {w : World} {R R' : Ending → World → Prop} (h : Calls P f args w R) (hm : ∀ e w', R e w' → R' e w') : (Fence.wide.inRound l).fn f ∧ CallsIn (Fence.wide.inRound l) n P f args w R' :=
  ⟨trivial, CallsIn.inRound l ((callsIn_wide.2 h).mono hm)⟩
theorem ownFrom_blk {β : Type} (B g : Nat) (t : TypeId) (cs : Array Value) : OwnFrom B (fun (_ : β) W => Blk W g t cs) := fun _ X _ _ hs hg hr =>
  (hg.block g hs.lt (fun e => by obtain ⟨_, o, ho, hc⟩ := hr g e.symm; rw [show X.heap[g]? = _ from hs] at ho; cases ho; cases hc)).trans hs
theorem keeps_below {W W' : World} (h : Below W.heap.size W W') : KeepsOthers W W' :=
  ⟨h.size, fun k _ hk _ => (h.block k (Array.getElem?_eq_some_iff.1 hk).1).trans hk⟩

/-- the k-th opening of a meets an opening of b. -/
def hitB (a b : Slot) (k : Nat) : Bool := decide (firstS b (a.tk k) < a.tk k + a.len)

/-- what Meet's loop keeps. -/
structure MI (w : World) (a b : Slot) (W : World) : Prop where
  ba : Blk W w.heap.size 23 #[.int .i64 a.off, .int .i64 a.per, .int .i64 a.len]
  bb : Blk W (w.heap.size + 1) 23 #[.int .i64 b.off, .int .i64 b.per, .int .i64 b.len]
  r1 : Blk W (w.heap.size + 2) 3 #[.int .i64 0]
  r2 : Blk W (w.heap.size + 3) 4 #[.bool false]
  hb : Below w.heap.size w W
theorem MI.next {w : World} {a b : Slot} {W W' : World} (h : MI w a b W) (hb : Below W.heap.size W W') : MI w a b W' :=
  ⟨h.ba.below hb h.ba.lt, h.bb.below hb h.bb.lt, h.r1.below hb h.r1.lt, h.r2.below hb h.r2.lt, h.hb.trans (hb.mono h.hb.size)⟩
theorem MI.own {β : Type} {w : World} {a b : Slot} {B : Nat} (hB : w.heap.size ≤ B) : OwnFrom B (fun (_ : β) W => MI w a b W) := fun s X Y row hs hg hr =>
  ⟨ownFrom_blk (β := β) B _ _ _ s X Y row hs.ba hg hr, ownFrom_blk (β := β) B _ _ _ s X Y row hs.bb hg hr, ownFrom_blk (β := β) B _ _ _ s X Y row hs.r1 hg hr, ownFrom_blk (β := β) B _ _ _ s X Y row hs.r2 hg hr,
   ownFrom_below (Nat.le_refl _) hB s X Y row hs.hb hg hr⟩
/-- what it leaves. -/
structure MX (w : World) (T : Int) (W : World) : Prop where
  r1 : Blk W (w.heap.size + 2) 3 #[.int .i64 T]
  r2 : Blk W (w.heap.size + 3) 4 #[.bool true]
  hb : Below w.heap.size w W
theorem MX.own {β : Type} {w : World} {T : Int} {B : Nat} (hB : w.heap.size ≤ B) : OwnFrom B (fun (_ : β) W => MX w T W) := fun s X Y row hs hg hr =>
  ⟨ownFrom_blk (β := β) B _ _ _ s X Y row hs.r1 hg hr, ownFrom_blk (β := β) B _ _ _ s X Y row hs.r2 hg hr, ownFrom_below (Nat.le_refl _) hB s X Y row hs.hb hg hr⟩

theorem mi_start (w : World) (a b : Slot) : MI w a b ((((w.alloc (.cells #[.int .i64 a.off, .int .i64 a.per, .int .i64 a.len] 23)).alloc (.cells #[.int .i64 b.off, .int .i64 b.per, .int .i64 b.len] 23)).alloc (.cells #[.int .i64 0] 3)).alloc (.cells #[.bool false] 4)) := by
  have b0 := (((Blk.new w 23 #[.int .i64 a.off, .int .i64 a.per, .int .i64 a.len]).alloc (.cells #[.int .i64 b.off, .int .i64 b.per, .int .i64 b.len] 23)).alloc (.cells #[.int .i64 0] 3)).alloc (.cells #[.bool false] 4)
  have b1 := ((Blk.new (w.alloc (.cells #[.int .i64 a.off, .int .i64 a.per, .int .i64 a.len] 23)) 23 #[.int .i64 b.off, .int .i64 b.per, .int .i64 b.len]).alloc (.cells #[.int .i64 0] 3)).alloc (.cells #[.bool false] 4)
  have b2 := (Blk.new ((w.alloc (.cells #[.int .i64 a.off, .int .i64 a.per, .int .i64 a.len] 23)).alloc (.cells #[.int .i64 b.off, .int .i64 b.per, .int .i64 b.len] 23)) 3 #[.int .i64 0]).alloc (.cells #[.bool false] 4)
  have b3 := Blk.new (((w.alloc (.cells #[.int .i64 a.off, .int .i64 a.per, .int .i64 a.len] 23)).alloc (.cells #[.int .i64 b.off, .int .i64 b.per, .int .i64 b.len] 23)).alloc (.cells #[.int .i64 0] 3)) 4 #[.bool false]
  simp only [World.size_alloc] at b1 b2 b3
  exact ⟨b0, b1, b2, b3, (((((Below.refl _ w).alloc (Nat.le_refl _) _).alloc (by simp) _).alloc (by simp; omega) _).alloc (by simp; omega) _)⟩

set_option maxRecDepth 100000 in
set_option maxHeartbeats 1000000 in
theorem meet_yes (a b : Slot) (K : Nat) (w : World) (ha : a.ok) (hb : b.ok) (hd : apartB a b = false) (hK : hitB a b K = true) (hKm : ∀ k, k < K → hitB a b k = false) (hKB : K < 5000000) :
    Calls Try.prog 21 #[.agg #[.int .i64 a.off, .int .i64 a.per, .int .i64 a.len], .agg #[.int .i64 b.off, .int .i64 b.per, .int .i64 b.len]] w fun e w' => e = .returned (.tuple #[.int .i64 (firstS b (a.tk K)), .bool true]) ∧ Below w.heap.size w w' := by
  have hva := fun W => valid_c a W
  have hvb := fun W => valid_c b W
  have hdj := fun W => disj_c a b W
  rw [show validS a = true from decide_eq_true ha] at hva
  rw [show validS b = true from decide_eq_true hb] at hvb
  rw [show disjB a b = false by simp [disjB, hd]] at hdj
  have Hd := Lib.hid hd
  have HK := Lib.hid hK
  have HKm := Lib.hid hKm
  clear hd hK hKm
  refine (callsIn_wide (n := 9)).1 ?_
  refine callsIn_of_wp_marks Try.func21 rfl trivial ?_ rfl
  simp only [Try.ntmps21, List.size_toArray, List.length_cons, List.length_nil, Nat.reduceAdd, Nat.reduceSub, Array.replicate_succ, Array.replicate_zero, List.push_toArray, List.append_toArray, List.nil_append, List.cons_append]
  gi_wp2_with fail
  have hM0 := mi_start w a b
  generalize ((((w.alloc (.cells #[.int .i64 a.off, .int .i64 a.per, .int .i64 a.len] 23)).alloc (.cells #[.int .i64 b.off, .int .i64 b.per, .int .i64 b.len] 23)).alloc (.cells #[.int .i64 0] 3)).alloc (.cells #[.bool false] 4)) = W0 at hM0 ⊢
  refine wide_call (hva W0) ?_
  rintro e W1 ⟨rfl, hb1⟩
  have hM1 := hM0.next hb1
  clear hM0 hb1 hva
  have e3 : W1.cell? ⟨w.heap.size + 1, 0, none⟩ = some (.int .i64 b.off) := hM1.bb.cell 0
  have e4 : W1.cell? ⟨w.heap.size + 1, 1, none⟩ = some (.int .i64 b.per) := hM1.bb.cell 1
  have e5 : W1.cell? ⟨w.heap.size + 1, 2, none⟩ = some (.int .i64 b.len) := hM1.bb.cell 2
  gi_wp2_with fail
  refine wide_call (hvb W1) ?_
  rintro e W2 ⟨rfl, hb2⟩
  have hM2 := hM1.next hb2
  clear hM1 hb2 hvb e3 e4 e5
  have e0 : W2.cell? ⟨w.heap.size, 0, none⟩ = some (.int .i64 a.off) := hM2.ba.cell 0
  have e1 : W2.cell? ⟨w.heap.size, 1, none⟩ = some (.int .i64 a.per) := hM2.ba.cell 1
  have e2 : W2.cell? ⟨w.heap.size, 2, none⟩ = some (.int .i64 a.len) := hM2.ba.cell 2
  have e3 : W2.cell? ⟨w.heap.size + 1, 0, none⟩ = some (.int .i64 b.off) := hM2.bb.cell 0
  have e4 : W2.cell? ⟨w.heap.size + 1, 1, none⟩ = some (.int .i64 b.per) := hM2.bb.cell 1
  have e5 : W2.cell? ⟨w.heap.size + 1, 2, none⟩ = some (.int .i64 b.len) := hM2.bb.cell 2
  gi_wp2_with fail
  refine wide_call (hdj W2) ?_
  rintro e W3 ⟨rfl, hb3⟩
  have hM3 := hM2.next hb3
  clear hM2 hb3 hdj e0 e1 e2 e3 e4 e5
  have e0 : W3.cell? ⟨w.heap.size, 0, none⟩ = some (.int .i64 a.off) := hM3.ba.cell 0
  have e1 : W3.cell? ⟨w.heap.size, 1, none⟩ = some (.int .i64 a.per) := hM3.ba.cell 1
  have e2 : W3.cell? ⟨w.heap.size, 2, none⟩ = some (.int .i64 a.len) := hM3.ba.cell 2
  gi_wp2_with fail
  refine wide_call (starts_c a W3) ?_
  rintro e W4 ⟨rfl, rfl⟩
  have hM4 := hM3.next ((Below.refl _ _).alloc (Nat.le_refl _) (.cells #[.int .i64 a.off, .int .i64 a.per, .int .i64 a.len] 64))
  have hbox := Blk.new W3 64 #[.int .i64 a.off, .int .i64 a.per, .int .i64 a.len]
  have hsz : W3.heap.size < (W3.alloc (.cells #[.int .i64 a.off, .int .i64 a.per, .int .i64 a.len] 64)).heap.size := by simp
  generalize W3.alloc (.cells #[.int .i64 a.off, .int .i64 a.per, .int .i64 a.len] 64) = W4 at hM4 hbox hsz ⊢
  generalize W3.heap.size = Bx at hbox hsz ⊢
  clear hM3 e0 e1 e2
  gi_wp2_with fail
  refine wpIn_rangeK (gf := 59) (lb := #[.pointer (some ⟨Bx, 0, none⟩)]) rfl (enters_of Try.func59 (by kernel_rfl) rfl)
    (fun k => #[.int .i64 (a.tk k)]) (fun _ => rfl) (K + 1) Bx hsz (starts1_seq a ha _ Bx W4 hsz hbox)
    (fun k W => k ≤ K ∧ (Below W4.heap.size W4 W ∧ MI w a b W)) (fun c W => c = .ret ∧ MX w (firstS b (a.tk K)) W)
    (OwnFrom.and (ownFrom_pure _ _) (OwnFrom.and (ownFrom_below (Nat.le_refl _) (Nat.le_refl _)) (MI.own hM4.hb.size))) (OwnFrom.and (ownFrom_pure _ _) (MX.own hM4.hb.size)) (fun k W h => by omega) (by omega) ⟨Nat.zero_le _, Below.refl _ _, hM4⟩
    (fun k => { tmps := #[.agg #[.int .i64 a.off, .int .i64 a.per, .int .i64 a.len], .agg #[.int .i64 b.off, .int .i64 b.per, .int .i64 b.len], .pointer (some ⟨w.heap.size, 0, none⟩), .pointer (some ⟨w.heap.size + 1, 0, none⟩), .pointer (some ⟨w.heap.size + 1 + 1, 0, none⟩), .pointer (some ⟨w.heap.size + 1 + 1 + 1, 0, none⟩), .int .i64 (a.tk k), undef,
      .agg #[.int .i64 a.off, .int .i64 a.per, .int .i64 a.len], .bool true, .bool false, .bool false, .agg #[.int .i64 b.off, .int .i64 b.per, .int .i64 b.len], .bool true, .bool false, .bool false, .bool false,
      .agg #[.int .i64 a.off, .int .i64 a.per, .int .i64 a.len], .agg #[.int .i64 b.off, .int .i64 b.per, .int .i64 b.len], .bool false, .bool false, .agg #[.int .i64 a.off, .int .i64 a.per, .int .i64 a.len],
      .func (.func 59) #[] #[.pointer (some ⟨Bx, 0, none⟩)], .int .i64 (a.tk k), undef, undef, undef, undef, undef, undef, undef, undef, undef, undef], defers := [] })
    ?assign ?body ?stop
  case assign =>
    intro l k W KK hK
    gi_wp2
    exact hK
  case body =>
    rintro l k W ⟨hk, hW4, hM⟩
    have e3 : W.cell? ⟨w.heap.size + 1, 0, none⟩ = some (.int .i64 b.off) := hM.bb.cell 0
    have e4 : W.cell? ⟨w.heap.size + 1, 1, none⟩ = some (.int .i64 b.per) := hM.bb.cell 1
    have e5 : W.cell? ⟨w.heap.size + 1, 2, none⟩ = some (.int .i64 b.len) := hM.bb.cell 2
    obtain ⟨t0, t1⟩ := tk_bd ha k (by omega)
    have hfc := first_c b (a.tk k) W hb t0 t1
    have hhit : hitB a b k = decide (firstS b (a.tk k) < a.tk k + a.len) := rfl
    have hl1 := ha.2.2.1
    have hl2 := ha.2.2.2.1
    have hl3 := ha.2.1
    by_cases hkK : k = K
    · subst hkK
      rw [HK.out] at hhit
      have hlt : firstS b (a.tk k) < a.tk k + a.len := of_decide_eq_true hhit.symm
      clear hhit
      generalize firstS b (a.tk k) = T at *
      generalize a.tk k = t at *
      gi_wp2_with fail
      refine round_call hfc ?_
      rintro e W' ⟨rfl, hb'⟩
      have hM' := hM.next hb'
      have hko := keeps_below hb'
      clear hM hb' hfc e3 e4 e5
      have f2 : W'.cell? ⟨w.heap.size, 2, none⟩ = some (.int .i64 a.len) := hM'.ba.cell 2
      have f3 : W'.cell? ⟨w.heap.size + 1 + 1, 0, none⟩ = some (.int .i64 0) := hM'.r1.cell 0
      have f4 : W'.cell? ⟨w.heap.size + 1 + 1 + 1, 0, none⟩ = some (.bool false) := hM'.r2.cell 0
      have f5 : W'.frozen? ⟨w.heap.size + 1 + 1, 0, none⟩ = false := hM'.r1.frozen 0
      have f6 : W'.frozen? ⟨w.heap.size + 1 + 1 + 1, 0, none⟩ = false := hM'.r2.frozen 0
      gi_wp2
      exact ⟨hko.trans ((KeepsOthers.setCell _ _ _).trans (KeepsOthers.setCell _ _ _)), rfl, (hM'.r1.set_ 0 (.int .i64 T)).far (p := ⟨w.heap.size + 1 + 1 + 1, 0, none⟩) (by simp) _,
        (hM'.r2.far (p := ⟨w.heap.size + 1 + 1, 0, none⟩) (by simp) _).set_ 0 (.bool true), (hM'.hb.setCell (p := ⟨w.heap.size + 1 + 1, 0, none⟩) (by simp; omega) _).setCell (p := ⟨w.heap.size + 1 + 1 + 1, 0, none⟩) (by simp; omega) _⟩
    · have hno := HKm.out k (by omega)
      rw [hno] at hhit
      have hge : a.tk k + a.len ≤ firstS b (a.tk k) := by
        have := of_decide_eq_false hhit.symm
        omega
      clear hhit hno
      generalize firstS b (a.tk k) = T at *
      generalize a.tk k = t at *
      gi_wp2_with fail
      refine round_call hfc ?_
      rintro e W' ⟨rfl, hb'⟩
      have hM' := hM.next hb'
      have hko := keeps_below hb'
      have f2 : W'.cell? ⟨w.heap.size, 2, none⟩ = some (.int .i64 a.len) := hM'.ba.cell 2
      clear hM hfc e3 e4 e5
      gi_wp2
      exact ⟨hko, hb'.block Bx (Nat.lt_of_lt_of_le hsz hW4.size), by omega, hW4.trans (hb'.mono hW4.size), hM'⟩
  case stop =>
    rintro c W ⟨rfl, hX⟩ hK
    gi_wp2
    refine ⟨by simp, .inl ⟨_, _, rfl, run_takeDeferred hK, ?_⟩⟩
    have g1 : W.cell? ⟨w.heap.size + 1 + 1, 0, none⟩ = some (.int .i64 (firstS b (a.tk K))) := hX.r1.cell 0
    have g2 : W.cell? ⟨w.heap.size + 1 + 1 + 1, 0, none⟩ = some (.bool true) := hX.r2.cell 0
    have g3 := cell_kept g1 (grownBy_putObj' _ W4.heap.size (.deferred none)) (fun r e => by cases e; exact ⟨_, hK, rfl⟩)
    have g4 := cell_kept g2 (grownBy_putObj' _ W4.heap.size (.deferred none)) (fun r e => by cases e; exact ⟨_, hK, rfl⟩)
    refine ⟨.tuple #[.int .i64 (firstS b (a.tk K)), .bool true], by simp [results, Try.f21, go_sem, g3, g4], rfl, ?_⟩
    exact hX.hb.trans (belowK_b (w := w) (Nat.le_refl _) W W4.heap.size _ _ hM4.hb.size hK rfl rfl)

set_option maxRecDepth 100000 in
set_option maxHeartbeats 1000000 in
theorem meet_no (a b : Slot) (w : World) (h : validS a = false ∨ validS b = false ∨ disjB a b = true) :
    Calls Try.prog 21 #[.agg #[.int .i64 a.off, .int .i64 a.per, .int .i64 a.len], .agg #[.int .i64 b.off, .int .i64 b.per, .int .i64 b.len]] w fun e w' => e = .returned (.tuple #[.int .i64 0, .bool false]) ∧ Below w.heap.size w w' := by
  have hva := fun W => valid_c a W
  have hvb := fun W => valid_c b W
  have hdj := fun W => disj_c a b W
  have hM0 := mi_start w a b
  generalize validS a = va at *
  generalize validS b = vb at *
  generalize disjB a b = dj at *
  go_enter Try.func21, Try.ntmps21
  go_wp2_with fail
  generalize ((((w.alloc (.cells #[.int .i64 a.off, .int .i64 a.per, .int .i64 a.len] 23)).alloc (.cells #[.int .i64 b.off, .int .i64 b.per, .int .i64 b.len] 23)).alloc (.cells #[.int .i64 0] 3)).alloc (.cells #[.bool false] 4)) = W0 at hM0 ⊢
  cases va with
  | false =>
    refine (hva W0).mono ?_
    rintro e W' ⟨rfl, hb1⟩
    have hM' := hM0.next hb1
    clear hM0 hb1 hva hvb hdj h
    have f3 : W'.cell? ⟨w.heap.size + 1 + 1, 0, none⟩ = some (.int .i64 0) := hM'.r1.cell 0
    have f4 : W'.cell? ⟨w.heap.size + 1 + 1 + 1, 0, none⟩ = some (.bool false) := hM'.r2.cell 0
    have f5 : W'.frozen? ⟨w.heap.size + 1 + 1, 0, none⟩ = false := hM'.r1.frozen 0
    have f6 : W'.frozen? ⟨w.heap.size + 1 + 1 + 1, 0, none⟩ = false := hM'.r2.frozen 0
    have hB := hM'.hb
    go_wp2
    have g3 : ((W'.setCell ⟨w.heap.size + 1 + 1, 0, none⟩ (.int .i64 0)).setCell ⟨w.heap.size + 1 + 1 + 1, 0, none⟩ (.bool false)).cell? ⟨w.heap.size + 1 + 1, 0, none⟩ = some (.int .i64 0) := ((hM'.r1.set_ 0 (.int .i64 0)).far (p := ⟨w.heap.size + 1 + 1 + 1, 0, none⟩) (by simp) _).cell 0
    have g4 : ((W'.setCell ⟨w.heap.size + 1 + 1, 0, none⟩ (.int .i64 0)).setCell ⟨w.heap.size + 1 + 1 + 1, 0, none⟩ (.bool false)).cell? ⟨w.heap.size + 1 + 1 + 1, 0, none⟩ = some (.bool false) := ((hM'.r2.far (p := ⟨w.heap.size + 1 + 1, 0, none⟩) (by simp) _).set_ 0 (.bool false)).cell 0
    exact bodyPost_ret (v := .tuple #[.int .i64 0, .bool false]) (by simp [results, Try.f21, go_sem, g3, g4]) rfl ⟨rfl, (hB.setCell (p := ⟨w.heap.size + 1 + 1, 0, none⟩) (by simp; omega) _).setCell (p := ⟨w.heap.size + 1 + 1 + 1, 0, none⟩) (by simp; omega) _⟩
  | true =>
    refine (hva W0).mono ?_
    rintro e W1 ⟨rfl, hb1⟩
    have hM1 := hM0.next hb1
    clear hM0 hb1 hva
    have e3 : W1.cell? ⟨w.heap.size + 1, 0, none⟩ = some (.int .i64 b.off) := hM1.bb.cell 0
    have e4 : W1.cell? ⟨w.heap.size + 1, 1, none⟩ = some (.int .i64 b.per) := hM1.bb.cell 1
    have e5 : W1.cell? ⟨w.heap.size + 1, 2, none⟩ = some (.int .i64 b.len) := hM1.bb.cell 2
    go_wp2_with fail
    cases vb with
    | false =>
      refine (hvb W1).mono ?_
      rintro e W' ⟨rfl, hb1⟩
      have hM' := hM1.next hb1
      clear hM1 hb1 hvb hdj h e3 e4 e5
      have f3 : W'.cell? ⟨w.heap.size + 1 + 1, 0, none⟩ = some (.int .i64 0) := hM'.r1.cell 0
      have f4 : W'.cell? ⟨w.heap.size + 1 + 1 + 1, 0, none⟩ = some (.bool false) := hM'.r2.cell 0
      have f5 : W'.frozen? ⟨w.heap.size + 1 + 1, 0, none⟩ = false := hM'.r1.frozen 0
      have f6 : W'.frozen? ⟨w.heap.size + 1 + 1 + 1, 0, none⟩ = false := hM'.r2.frozen 0
      have hB := hM'.hb
      go_wp2
      have g3 : ((W'.setCell ⟨w.heap.size + 1 + 1, 0, none⟩ (.int .i64 0)).setCell ⟨w.heap.size + 1 + 1 + 1, 0, none⟩ (.bool false)).cell? ⟨w.heap.size + 1 + 1, 0, none⟩ = some (.int .i64 0) := ((hM'.r1.set_ 0 (.int .i64 0)).far (p := ⟨w.heap.size + 1 + 1 + 1, 0, none⟩) (by simp) _).cell 0
      have g4 : ((W'.setCell ⟨w.heap.size + 1 + 1, 0, none⟩ (.int .i64 0)).setCell ⟨w.heap.size + 1 + 1 + 1, 0, none⟩ (.bool false)).cell? ⟨w.heap.size + 1 + 1 + 1, 0, none⟩ = some (.bool false) := ((hM'.r2.far (p := ⟨w.heap.size + 1 + 1, 0, none⟩) (by simp) _).set_ 0 (.bool false)).cell 0
      exact bodyPost_ret (v := .tuple #[.int .i64 0, .bool false]) (by simp [results, Try.f21, go_sem, g3, g4]) rfl ⟨rfl, (hB.setCell (p := ⟨w.heap.size + 1 + 1, 0, none⟩) (by simp; omega) _).setCell (p := ⟨w.heap.size + 1 + 1 + 1, 0, none⟩) (by simp; omega) _⟩
    | true =>
      obtain rfl : dj = true := by simpa using h
      refine (hvb W1).mono ?_
      rintro e W2 ⟨rfl, hb2⟩
      have hM2 := hM1.next hb2
      clear hM1 hb2 hvb e3 e4 e5 h
      have e0 : W2.cell? ⟨w.heap.size, 0, none⟩ = some (.int .i64 a.off) := hM2.ba.cell 0
      have e1 : W2.cell? ⟨w.heap.size, 1, none⟩ = some (.int .i64 a.per) := hM2.ba.cell 1
      have e2 : W2.cell? ⟨w.heap.size, 2, none⟩ = some (.int .i64 a.len) := hM2.ba.cell 2
      have e3 : W2.cell? ⟨w.heap.size + 1, 0, none⟩ = some (.int .i64 b.off) := hM2.bb.cell 0
      have e4 : W2.cell? ⟨w.heap.size + 1, 1, none⟩ = some (.int .i64 b.per) := hM2.bb.cell 1
      have e5 : W2.cell? ⟨w.heap.size + 1, 2, none⟩ = some (.int .i64 b.len) := hM2.bb.cell 2
      go_wp2_with fail
      refine (hdj W2).mono ?_
      rintro e W' ⟨rfl, hb1⟩
      have hM' := hM2.next hb1
      clear hM2 hb1 hdj e0 e1 e2 e3 e4 e5
      have f3 : W'.cell? ⟨w.heap.size + 1 + 1, 0, none⟩ = some (.int .i64 0) := hM'.r1.cell 0
      have f4 : W'.cell? ⟨w.heap.size + 1 + 1 + 1, 0, none⟩ = some (.bool false) := hM'.r2.cell 0
      have f5 : W'.frozen? ⟨w.heap.size + 1 + 1, 0, none⟩ = false := hM'.r1.frozen 0
      have f6 : W'.frozen? ⟨w.heap.size + 1 + 1 + 1, 0, none⟩ = false := hM'.r2.frozen 0
      have hB := hM'.hb
      go_wp2
      have g3 : ((W'.setCell ⟨w.heap.size + 1 + 1, 0, none⟩ (.int .i64 0)).setCell ⟨w.heap.size + 1 + 1 + 1, 0, none⟩ (.bool false)).cell? ⟨w.heap.size + 1 + 1, 0, none⟩ = some (.int .i64 0) := ((hM'.r1.set_ 0 (.int .i64 0)).far (p := ⟨w.heap.size + 1 + 1 + 1, 0, none⟩) (by simp) _).cell 0
      have g4 : ((W'.setCell ⟨w.heap.size + 1 + 1, 0, none⟩ (.int .i64 0)).setCell ⟨w.heap.size + 1 + 1 + 1, 0, none⟩ (.bool false)).cell? ⟨w.heap.size + 1 + 1 + 1, 0, none⟩ = some (.bool false) := ((hM'.r2.far (p := ⟨w.heap.size + 1 + 1, 0, none⟩) (by simp) _).set_ 0 (.bool false)).cell 0
      exact bodyPost_ret (v := .tuple #[.int .i64 0, .bool false]) (by simp [results, Try.f21, go_sem, g3, g4]) rfl ⟨rfl, (hB.setCell (p := ⟨w.heap.size + 1 + 1, 0, none⟩) (by simp; omega) _).setCell (p := ⟨w.heap.size + 1 + 1 + 1, 0, none⟩) (by simp; omega) _⟩
end Go.Proofs.Ytlmbffnmjfbglaa
