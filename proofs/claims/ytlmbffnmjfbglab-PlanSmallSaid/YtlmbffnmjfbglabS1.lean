/- Trees of claims whose arrays all lie apart; CopyClaims makes one. -/
import Derived.Test.YtlmbffnmjfbglabK1
set_option linter.unusedSimpArgs false
set_option linter.unusedVariables false
namespace Go.Proofs.Ytlmbffnmjfbglab
open Go.ChangeShapes Go.WideShapes Go.ChangeAt Go.RowKit

abbrev SlV.val (s : SlV) : Value := .slice s.a s.n s.c
mutual
/-- a claim whose arrays lie in blocks from lo to hi, all apart, and apart from the block in which it lies. -/
def OwC (w : World) (own : Option Nat) (lo hi : Nat) (x : CV) : Claim → Prop
  | .mk f t wi sub => x.f = f ∧ x.t = t ∧ x.w = wi ∧ x.s.n = sub.length ∧ (∀ g, own = some g → g < lo ∨ hi ≤ g) ∧
      ∃ L : List CV, w.ownsRow lo 35 4 x.s.val sub.length (L.flatMap CV.cells) ∧ (∀ g, x.s.val.ownBlock = some g → g < hi) ∧ OwL w x.s.val.ownBlock lo hi L sub
/-- claims, each in blocks of its own. -/
def OwL (w : World) (own : Option Nat) (lo hi : Nat) (L : List CV) : List Claim → Prop
  | [] => L = []
  | y :: r => ∃ x L' a b, L = x :: L' ∧ lo ≤ a ∧ a ≤ b ∧ b ≤ hi ∧ OwC w own a b x y ∧ OwL w own b hi L' r
end
theorem ownsRow_keep {w w' : World} {B : Nat} {e : TypeId} {n k : Nat} {V : Value} {vs : List Value} (h : w.ownsRow B e n V k vs) (hk : ∀ g, V.ownBlock = some g → w'.heap[g]? = w.heap[g]?) : w'.ownsRow B e n V k vs :=
  ⟨h.1, by
    rcases h.2 with hn | ⟨g, cap, cur, e, hb, hgg, rest⟩
    · exact .inl hn
    · exact .inr ⟨g, cap, cur, e, hb, (hk g (by rw [e]; rfl)).trans hgg, rest⟩⟩
theorem ownsRow_lo {w : World} {B B' : Nat} {e : TypeId} {n k : Nat} {V : Value} {vs : List Value} (h : w.ownsRow B e n V k vs) (hb : B' ≤ B) : w.ownsRow B' e n V k vs :=
  ⟨h.1, h.2.imp id fun ⟨g, cap, cur, e, hg, r⟩ => ⟨g, cap, cur, e, Nat.le_trans hb hg, r⟩⟩
theorem ownsRow_form {w : World} {B : Nat} {e : TypeId} {n k : Nat} {V : Value} {vs : List Value} (h : w.ownsRow B e n V k vs) : ∃ A c, V = .slice A k c ∧ k ≤ c ∧ c ≤ maxLen := by
  rcases h.2 with ⟨rfl, rfl⟩ | ⟨g, cap, cur, rfl, _, _, h1, h2, _⟩
  · exact ⟨none, 0, rfl, Nat.le_refl _, by simp [maxLen]⟩
  · exact ⟨_, cap, rfl, h1, h2⟩
mutual
theorem OwC.keep {w w' : World} {own : Option Nat} {lo hi : Nat} {x : CV} (hk : ∀ b, lo ≤ b → b < hi → own ≠ some b → w'.heap[b]? = w.heap[b]?) : ∀ {y : Claim}, OwC w own lo hi x y → OwC w' own lo hi x y
  | .mk f t wi sub, h => by
    simp only [OwC] at h ⊢
    obtain ⟨h1, h2, h3, h4, h5, L, h6, h7, h8⟩ := h
    have hk' : ∀ b, lo ≤ b → b < hi → w'.heap[b]? = w.heap[b]? := fun b g1 g2 => hk b g1 g2 fun e => by have := h5 b e; omega
    exact ⟨h1, h2, h3, h4, h5, L, ownsRow_keep h6 fun g hg => hk' g (h6.lt g hg).1 (h7 g hg), h7, OwL.keep (fun b g1 g2 _ => hk' b g1 g2) h8⟩
theorem OwL.keep {w w' : World} {own : Option Nat} {lo hi : Nat} {L : List CV} (hk : ∀ b, lo ≤ b → b < hi → own ≠ some b → w'.heap[b]? = w.heap[b]?) : ∀ {l : List Claim}, OwL w own lo hi L l → OwL w' own lo hi L l
  | [], h => by simpa only [OwL] using h
  | y :: r, h => by
    simp only [OwL] at h ⊢
    obtain ⟨x, L', a, b, rfl, h1, h2, h3, h4, h5⟩ := h
    exact ⟨x, L', a, b, rfl, h1, h2, h3, OwC.keep (fun g g1 g2 => hk g (by omega) (by omega)) h4, OwL.keep (fun g g1 g2 => hk g (by omega) (by omega)) h5⟩
end
theorem OwL.wide {w : World} {own : Option Nat} {hi hi' : Nat} (hh : hi ≤ hi') : ∀ {l : List Claim} {L : List CV} {lo lo' : Nat}, lo' ≤ lo → OwL w own lo hi L l → OwL w own lo' hi' L l
  | [], _, _, _, _, h => by simpa only [OwL] using h
  | y :: r, L, lo, lo', hl, h => by
    simp only [OwL] at h ⊢
    obtain ⟨x, L', a, b, rfl, h1, h2, h3, h4, h5⟩ := h
    exact ⟨x, L', a, b, rfl, by omega, h2, by omega, h4, OwL.wide hh (Nat.le_refl _) h5⟩
section
variable {w : World} {lo hi : Nat}
/-- the claims lie in another block. -/
theorem OwL.move {own own' : Option Nat} (ho : ∀ g, own' = some g → g < lo ∨ hi ≤ g) : ∀ {l : List Claim} {L : List CV} {lo' : Nat}, lo ≤ lo' → OwL w own lo' hi L l → OwL w own' lo' hi L l
  | [], _, _, _, h => by simpa only [OwL] using h
  | .mk f t wi sub :: r, L, lo', hl, h => by
    simp only [OwL, OwC] at h ⊢
    obtain ⟨x, L', a, b, rfl, h1, h2, h3, ⟨c1, c2, c3, c4, c5, c6⟩, h5⟩ := h
    exact ⟨x, L', a, b, rfl, h1, h2, h3, ⟨c1, c2, c3, c4, fun g hg => by rcases ho g hg with h | h <;> omega, c6⟩, OwL.move ho (by omega) h5⟩
theorem OwL.push {own : Option Nat} {a b hi' : Nat} {x : CV} {y : Claim} (hlo : lo ≤ hi) (ha : hi ≤ a) (hab : a ≤ b) (hb : b ≤ hi') (hx : OwC w own a b x y) : ∀ {l : List Claim} {L : List CV} {lo' : Nat}, lo ≤ lo' → lo' ≤ hi → OwL w own lo' hi L l → OwL w own lo' hi' (L ++ [x]) (l ++ [y])
  | [], _, lo', h1, h2, h => by
    simp only [OwL] at h
    subst h
    simp only [List.nil_append, OwL]
    exact ⟨x, [], a, b, rfl, by omega, hab, hb, hx, rfl⟩
  | z :: r, L, lo', hl1, hl2, h => by
    simp only [OwL, List.cons_append] at h ⊢
    obtain ⟨x', L', a', b', rfl, h1, h2, h3, h4, h5⟩ := h
    exact ⟨x', L' ++ [x], a', b', rfl, h1, h2, by omega, h4, OwL.push hlo ha hab hb hx (by omega) h3 h5⟩
theorem OwL.len {own : Option Nat} : ∀ {l : List Claim} {L : List CV} {lo : Nat}, OwL w own lo hi L l → L.length = l.length
  | [], _, _, h => by simp only [OwL] at h; rw [h]; rfl
  | y :: r, L, lo, h => by
    simp only [OwL] at h
    obtain ⟨x, L', a, b, rfl, _, _, _, _, h5⟩ := h
    simp [OwL.len h5]
/-- one of the claims, and the others apart from it. -/
theorem OwL.get {own : Option Nat} : ∀ {l : List Claim} {L : List CV} {lo : Nat}, OwL w own lo hi L l → ∀ i (hi1 : i < L.length) (hi2 : i < l.length), ∃ a b, lo ≤ a ∧ a ≤ b ∧ b ≤ hi ∧ OwC w own a b L[i] l[i] ∧
    ∀ j (hj1 : j < L.length) (hj2 : j < l.length), j ≠ i → ∃ a' b', lo ≤ a' ∧ a' ≤ b' ∧ b' ≤ hi ∧ (b' ≤ a ∨ b ≤ a') ∧ OwC w own a' b' L[j] l[j]
  | [], _, _, _, i, _, hi2 => absurd hi2 (by simp)
  | y :: r, L, lo, h, i, hi1, hi2 => by
    simp only [OwL] at h
    obtain ⟨x, L', a, b, rfl, h1, h2, h3, h4, h5⟩ := h
    match i, hi1, hi2 with
    | 0, _, _ =>
      refine ⟨a, b, h1, h2, h3, h4, fun j hj1 hj2 hne => ?_⟩
      obtain ⟨j, rfl⟩ : ∃ j', j = j' + 1 := ⟨j - 1, by omega⟩
      obtain ⟨a', b', g1, g2, g3, g4, _⟩ := OwL.get h5 j (by simpa using hj1) (by simpa using hj2)
      exact ⟨a', b', by omega, g2, g3, .inr g1, g4⟩
    | i + 1, hi1, hi2 =>
      obtain ⟨a1, b1, g1, g2, g3, g4, g5⟩ := OwL.get h5 i (by simpa using hi1) (by simpa using hi2)
      refine ⟨a1, b1, by omega, g2, g3, g4, fun j hj1 hj2 hne => ?_⟩
      match j, hj1, hj2, hne with
      | 0, _, _, _ => exact ⟨a, b, h1, h2, h3, .inl g1, h4⟩
      | j + 1, hj1, hj2, hne =>
        obtain ⟨a', b', f1, f2, f3, f4, f5⟩ := g5 j (by simpa using hj1) (by simpa using hj2) (by omega)
        exact ⟨a', b', by omega, f2, f3, f4, f5⟩
end
/-- blocks from lo to hi. -/
abbrev InQ (lo hi : Nat) (b : Nat) : Prop := lo ≤ b ∧ b < hi
mutual
theorem OwC.rd {w : World} {own : Option Nat} {lo hi : Nat} {x : CV} : ∀ {y : Claim}, OwC w own lo hi x y → x.f = y.frm ∧ x.t = y.to ∧ x.w = y.wth ∧ x.s.n = y.sub.length ∧ x.s.n ≤ x.s.c ∧ x.s.c ≤ maxLen ∧ RdCls w (InQ lo hi) x.s.a y.sub
  | .mk f t wi sub, h => by
    simp only [OwC] at h
    obtain ⟨h1, h2, h3, h4, h5, L, h6, h7, h8⟩ := h
    obtain ⟨A, c, e, e1, e2, e3⟩ := rdCls_of_own (OwL.len h8).symm h6 (OwL.rd h8) (fun g hg => ⟨(h6.lt g hg).1, h7 g hg⟩)
    injection e with ea en ec
    refine ⟨h1, h2, h3, h4, by rw [h4, ec]; exact e1, by rw [ec]; exact e2, by rw [ea]; exact e3⟩
theorem OwL.rd {w : World} {own : Option Nat} {lo hi : Nat} {L : List CV} : ∀ {l : List Claim}, OwL w own lo hi L l → CVs w (InQ lo hi) L l
  | [], h => by
    simp only [OwL] at h
    subst h
    exact CVs.nil
  | y :: r, h => by
    simp only [OwL] at h
    obtain ⟨x, L', a, b, rfl, h1, h2, h3, h4, h5⟩ := h
    have hx := OwC.rd h4
    have hr := OwL.rd h5
    refine ⟨by simp [hr.1], fun i hi1 hi2 => ?_⟩
    match i, hi1, hi2 with
    | 0, _, _ =>
      obtain ⟨c1, c2, c3, c4, c5, c6, c7⟩ := hx
      exact ⟨c1, c2, c3, c4, c5, c6, c7.keep fun g ⟨g1, g2⟩ => ⟨fun _ => rfl, by omega, by omega⟩⟩
    | i + 1, hi1, hi2 =>
      obtain ⟨c1, c2, c3, c4, c5, c6, c7⟩ := hr.2 i (by simpa using hi1) (by simpa using hi2)
      exact ⟨c1, c2, c3, c4, c5, c6, c7.keep fun g ⟨g1, g2⟩ => ⟨fun _ => rfl, by omega, by omega⟩⟩
end
/-- claims that lie in blocks from B on, all apart. -/
structure TR (B : Nat) (W : World) (V : Value) (l : List Claim) (L : List CV) : Prop where
  own : W.ownsRow B 35 4 V l.length (L.flatMap CV.cells)
  ow : OwL W V.ownBlock B W.heap.size L l
section
variable {B : Nat} {W W' w2 : World} {V : Value} {cl : List Claim} {L : List CV} {g cap : Nat}
theorem TR.nil (B : Nat) (W : World) : TR B W (.slice none 0 0) [] [] := ⟨World.ownsRow_nil _ _ _ _, by simp only [OwL]⟩
theorem TR.push (hown0 : W.ownsRow B 35 4 V cl.length (L.flatMap CV.cells)) {h0 a b : Nat} (how : OwL W V.ownBlock B h0 L cl) (hB : B ≤ h0) (ha : h0 ≤ a) (hab : a ≤ b) (hb : b ≤ W.heap.size) (x : CV) (y : Claim) (hx : OwC W V.ownBlock a b x y)
    (hgr : W.grownBy w2 V.ownBlock) (hown : w2.ownsRow B 35 4 (.slice (some ⟨g, 0, none⟩) (cl.length + 1) cap) (cl.length + 1) (L.flatMap CV.cells ++ CV.cells x)) (hg : V.ownBlock = some g ∨ g = W.heap.size) (hsz : W.heap.size ≤ w2.heap.size) :
    TR B w2 (.slice (some ⟨g, 0, none⟩) (cl.length + 1) cap) (cl ++ [y]) (L ++ [x]) := by
  have h1 := OwL.push (w := W) (lo := B) hB ha hab (Nat.le_refl b) hx (Nat.le_refl _) hB how
  have h2 : OwL w2 V.ownBlock B b (L ++ [x]) (cl ++ [y]) := h1.keep fun k k1 k2 k3 => hgr.block k (by omega) (fun e => k3 e.symm)
  refine ⟨by simpa using hown, ?_⟩
  rcases hg with hg | hg
  · have : (Value.slice (some ⟨g, 0, none⟩) (cl.length + 1) cap).ownBlock = V.ownBlock := by rw [hg]; rfl
    rw [this]
    exact h2.wide (by omega) (Nat.le_refl _)
  · exact (OwL.move (fun g' e => by simp only [Value.ownBlock, Option.some.injEq] at e; right; omega) (Nat.le_refl _) h2).wide (by omega) (Nat.le_refl _)
theorem TR.rd (h : TR B W V cl L) : ∃ A c, V = .slice A cl.length c ∧ cl.length ≤ c ∧ c ≤ maxLen ∧ RdK W A cl := by
  obtain ⟨A, c, e, h1, h2, h3⟩ := rdCls_of_own (Q := fun b => b < W.heap.size) h.ow.len.symm h.own (h.ow.rd.keep fun b ⟨_, h⟩ => ⟨fun _ => rfl, h⟩) (fun g hg => (h.own.lt g hg).2)
  exact ⟨A, c, e, h1, h2, h3⟩
end
/-- a copy whose arrays all lie apart. -/
def TreePost (w : World) (l : List Claim) (e : Ending) (w' : World) : Prop := ∃ V L, e = .returned V ∧ TR w.heap.size w' V l L ∧ Below w.heap.size w w'
set_option maxRecDepth 100000 in
set_option maxHeartbeats 2000000 in
theorem tree1_c (f t wi : Int) (sub : List Claim) (A : Option Addr) (c : Nat) (w : World)
    (ih : ∀ W, Below w.heap.size w W → Calls Try.prog 18 #[.slice A sub.length c] W (TreePost W sub)) :
    Calls Try.prog 38 #[.agg #[.int .i64 f, .int .i64 t, .int .i64 wi, .slice A sub.length c]] w fun e w' => ∃ V L, e = .returned (.agg #[.int .i64 f, .int .i64 t, .int .i64 wi, V]) ∧ TR w.heap.size w' V sub L ∧ Below w.heap.size w w' := by
  obtain ⟨W1, hW1⟩ : ∃ W1, W1 = (w.alloc (.cells #[.int .i64 f, .int .i64 t, .int .i64 wi, .slice A sub.length c] 35)).alloc (.cells #[.int .i64 0, .int .i64 0, .int .i64 0, .slice none 0 0] 35) := ⟨_, rfl⟩
  have hB : Below w.heap.size w W1 := by rw [hW1]; exact ((Below.refl _ w).alloc (Nat.le_refl _) _).alloc (by simp) _
  have hb0 : Blk W1 w.heap.size 35 #[.int .i64 f, .int .i64 t, .int .i64 wi, .slice A sub.length c] := by rw [hW1]; exact (Blk.new w 35 _).alloc _
  have hb1 : Blk W1 (w.heap.size + 1) 35 #[.int .i64 0, .int .i64 0, .int .i64 0, .slice none 0 0] := by
    rw [hW1]
    have := Blk.new (w.alloc (.cells #[.int .i64 f, .int .i64 t, .int .i64 wi, .slice A sub.length c] 35)) 35 #[.int .i64 0, .int .i64 0, .int .i64 0, .slice none 0 0]
    simpa only [World.size_alloc] using this
  have hih := ih _ hB
  have HW1 := Lib.hid hW1
  clear ih hW1
  go_enter Try.func38, Try.ntmps38
  go_wp2_with fail
  rw [← HW1.out]
  clear HW1
  refine hih.mono ?_
  rintro e W2 ⟨V, L, rfl, ⟨hOwn, hOL⟩, hb2⟩
  have hz := hb1.lt
  have hz2 := hb2.size
  replace hb0 := hb0.below hb2 hb0.lt
  replace hb1 := hb1.below hb2 hb1.lt
  have hB2 := hB.trans (hb2.mono hB.size)
  clear hih hb2 hB
  have q0 : W2.cell? ⟨w.heap.size, 0, none⟩ = some (.int .i64 f) := hb0.cell 0
  have q1 : W2.cell? ⟨w.heap.size, 1, none⟩ = some (.int .i64 t) := hb0.cell 1
  have q2 : W2.cell? ⟨w.heap.size, 2, none⟩ = some (.int .i64 wi) := hb0.cell 2
  have q3 : W2.cell? ⟨w.heap.size, 3, none⟩ = some (.slice A sub.length c) := hb0.cell 3
  have p0 : W2.cell? ⟨w.heap.size + 1, 0, none⟩ = some (.int .i64 0) := hb1.cell 0
  have p1 : W2.cell? ⟨w.heap.size + 1, 1, none⟩ = some (.int .i64 0) := hb1.cell 1
  have p2 : W2.cell? ⟨w.heap.size + 1, 2, none⟩ = some (.int .i64 0) := hb1.cell 2
  have p3 : W2.cell? ⟨w.heap.size + 1, 3, none⟩ = some (.slice none 0 0) := hb1.cell 3
  have f3 := hb0.frozen 3
  have g0 := hb1.frozen 0
  have g1 := hb1.frozen 1
  have g2 := hb1.frozen 2
  have g3 := hb1.frozen 3
  obtain ⟨A', c', rfl, _⟩ := ownsRow_form hOwn
  have HO := Lib.hid hOwn
  have HL := Lib.hid hOL
  have HB := Lib.hid hB2
  have Hb0 := Lib.hid hb0
  have Hb1 := Lib.hid hb1
  have Hz := Lib.hid hz
  have Hz2 := Lib.hid hz2
  clear hOwn hOL hB2 hb0 hb1 hz hz2
  go_wp2_with fail
  obtain ⟨W3, hW3⟩ : ∃ W3, W3 = ((((W2.setCell ⟨w.heap.size, 3, none⟩ (.slice A' sub.length c')).setCell ⟨w.heap.size + 1, 0, none⟩ (.int .i64 f)).setCell ⟨w.heap.size + 1, 1, none⟩ (.int .i64 t)).setCell ⟨w.heap.size + 1, 2, none⟩ (.int .i64 wi)).setCell ⟨w.heap.size + 1, 3, none⟩ (.slice A' sub.length c') := ⟨_, rfl⟩
  have hgr : Gr (fun b => b = w.heap.size ∨ b = w.heap.size + 1) W2 W3 := by
    rw [hW3]
    exact ((((Gr.setCell _ _ _ (by simp)).trans (Gr.setCell _ _ _ (by simp))).trans (Gr.setCell _ _ _ (by simp))).trans (Gr.setCell _ _ _ (by simp))).trans (Gr.setCell _ _ _ (by simp))
  have hr : Blk W3 (w.heap.size + 1) 35 #[.int .i64 f, .int .i64 t, .int .i64 wi, .slice A' sub.length c'] := by
    rw [hW3]
    exact (((((Hb1.out.far (p := ⟨w.heap.size, 3, none⟩) (by simp) _).set_ 0 (.int .i64 f)).set_ 1 (.int .i64 t)).set_ 2 (.int .i64 wi)).set_ 3 (.slice A' sub.length c'))
  rw [← hW3]
  clear hW3
  have r0 : W3.cell? ⟨w.heap.size + 1, 0, none⟩ = some (.int .i64 f) := hr.cell 0
  have r1 : W3.cell? ⟨w.heap.size + 1, 1, none⟩ = some (.int .i64 t) := hr.cell 1
  have r2 : W3.cell? ⟨w.heap.size + 1, 2, none⟩ = some (.int .i64 wi) := hr.cell 2
  have r3 : W3.cell? ⟨w.heap.size + 1, 3, none⟩ = some (.slice A' sub.length c') := hr.cell 3
  have hz := Hz.out
  have hz2 := Hz2.out
  have hB3 := ((Gr.of_below (X := fun b => w.heap.size ≤ b) HB.out).trans (hgr.mono fun k _ x => by rcases x with x | x <;> omega)).below0 fun k hk x => by omega
  have hlo := HO.out.lt
  have hblk : ∀ b, W1.heap.size ≤ b → b < W2.heap.size → W3.heap[b]? = W2.heap[b]? := fun b h1 h2 => hgr.block b h2 (by omega)
  have hown3 : W3.ownsRow w.heap.size 35 4 (.slice A' sub.length c') sub.length (L.flatMap CV.cells) := ownsRow_lo (ownsRow_keep HO.out fun g hg => hblk g (hlo g hg).1 (hlo g hg).2) (by omega)
  have hOL3 : OwL W3 (Value.slice A' sub.length c').ownBlock w.heap.size W3.heap.size L sub := OwL.wide hgr.size (by omega) (OwL.keep (fun b h1 h2 _ => hblk b h1 h2) HL.out)
  refine bodyPost_ret (v := .agg #[.int .i64 f, .int .i64 t, .int .i64 wi, .slice A' sub.length c']) (by simp [results, Try.results38, go_sem, r0, r1, r2, r3]) rfl ⟨_, L, rfl, ⟨hown3, hOL3⟩, hB3⟩

set_option maxRecDepth 100000 in
set_option maxHeartbeats 4000000 in
theorem tree_c : ∀ (N : Nat) (l : List Claim), sizeL l < N → ∀ (A : Option Addr) (c : Nat) (w : World), RdK w A l → sizeL l ≤ 1000000 → Calls Try.prog 18 #[.slice A l.length c] w (TreePost w l) := by
  intro N
  induction N with
  | zero => intro l hl; omega
  | succ N ih =>
    intro l hl A c w h hszl
    have hlen : l.length ≤ 1000000 := Nat.le_trans (sizeL_len l) hszl
    obtain ⟨i0, hi0, hz0, hz1, hz2⟩ := info_parts info35
    have IH := Lib.hid ih
    have H := Lib.hid h
    have HN := Lib.hid hl
    clear ih h hl
    go_enter Try.func18, Try.ntmps18
    go_wp2_with fail
    go_loopw [3, 4] (fun v i wr => ∃ (k : Nat) (L : List CV), k ≤ l.length ∧ i = .int .i64 k ∧ Below w.heap.size w wr ∧ Hid (TR w.heap.size wr v (l.take k) L)) (fun _ i _ => l.length - (intOf i).toNat)
    case atStart => exact ⟨0, [], Nat.zero_le _, rfl, Below.refl _ _, TR.nil _ _⟩
    case round =>
      obtain ⟨k, L, hk, rfl, hBr, hCR⟩ := hrel
      by_cases hlt : k < l.length
      · obtain ⟨b, o, rfl, hb, hrl⟩ := RdK.keep' hBr H.out (by omega)
        obtain ⟨c0, c1, c2, As, cs, c3, hs1, hs2, hsr⟩ := (RdL.at_ l o k hlt hrl).open'
        have hi0' : (0 : Int) ≤ (k : Int) := by omega
        have hi1' : (k : Int) < (l.length : Int) := by omega
        have hsz := sizeL_mem hlt
        rw [Claim.subN_sub] at hsz
        have hts : l.take (k + 1) = l.take k ++ [l[k]] := by rw [List.take_add_one, List.getElem?_eq_getElem hlt]; rfl
        have htl : (l.take k).length = k := by simp; omega
        have hsubN : sizeL l[k].sub < N := by have := HN.out; omega
        have hsl : l[k].sub.length ≤ sizeL l[k].sub := sizeL_len _
        cases hcx : l[k] with
        | mk f t wi sub =>
        rw [hcx] at c0 c1 c2 c3 hs1 hsr hsz hts hsubN hsl
        simp only [Claim.frm, Claim.to, Claim.wth, Claim.sub] at c0 c1 c2 c3 hs1 hsr hsz hsubN hsl
        have hcp := tree1_c f t wi sub As cs wr (fun W hW => IH.out sub hsubN As cs W (RdK.keep' hW hsr) (by omega))
        have Hcp := Lib.hid hcp
        have Hts := Lib.hid hts
        have Htl := Lib.hid htl
        clear hcp hts htl hrl hsr hcx hsz hsubN hb
        go_wp2_with fail
        refine Hcp.out.mono ?_
        rintro e W2 ⟨V', L', rfl, hCR2, hb2⟩
        obtain ⟨A', c', rfl, hc1, hc2⟩ := ownsRow_form hCR2.own
        obtain ⟨X, hX⟩ : ∃ X, X = (W2.alloc (.cells #[.int .i64 f, .int .i64 t, .int .i64 wi, .slice A' sub.length c'] 35)).alloc (.cells #[.int .i64 f, .int .i64 t, .int .i64 wi, .slice A' sub.length c'] 35) := ⟨_, rfl⟩
        have hBX : Below W2.heap.size W2 X := by rw [hX]; exact ((Below.refl _ _).alloc (Nat.le_refl _) _).alloc (by simp) _
        have hbT : Blk X (W2.heap.size + 1) 35 #[.int .i64 f, .int .i64 t, .int .i64 wi, .slice A' sub.length c'] := by
          rw [hX]
          have := Blk.new (W2.alloc (.cells #[.int .i64 f, .int .i64 t, .int .i64 wi, .slice A' sub.length c'] 35)) 35 #[.int .i64 f, .int .i64 t, .int .i64 wi, .slice A' sub.length c']
          simpa only [World.size_alloc] using this
        have hBwX := hb2.trans (hBX.mono hb2.size)
        have hs1 := hBr.size
        have hs2 := hb2.size
        have hs3 := hBX.size
        have hlt0 := hCR.out.own.lt
        have hown0 : X.ownsRow w.heap.size 35 4 u3 (l.take k).length (L.flatMap CV.cells) := ownsRow_keep hCR.out.own fun g hg => hBwX.block g (hlt0 g hg).2
        have how0 : OwL X u3.ownBlock w.heap.size wr.heap.size L (l.take k) := hCR.out.ow.keep fun g _ g2 _ => hBwX.block g g2
        have hlt2 := hCR2.own.lt
        have hox : OwC X u3.ownBlock wr.heap.size W2.heap.size ⟨f, t, wi, ⟨A', sub.length, c'⟩⟩ (.mk f t wi sub) := by
          simp only [OwC]
          exact ⟨trivial, trivial, trivial, trivial, fun g hg => .inl (hlt0 g hg).2, L', ownsRow_keep hCR2.own fun g hg => hBX.block g (hlt2 g hg).2, fun g hg => (hlt2 g hg).2, hCR2.ow.keep fun g _ g2 _ => hBX.block g g2⟩
        have hBr2 := hBr.trans (hBwX.mono hBr.size)
        have Hown0 := Lib.hid hown0
        have How0 := Lib.hid how0
        have Hox := Lib.hid hox
        have HbT := Lib.hid hbT
        have HBX := Lib.hid hBr2
        have HS := Lib.hid (And.intro hs1 (And.intro hs2 hs3))
        have Hlt0 := Lib.hid hlt0
        clear hown0 how0 hox hbT hBr2 hCR hCR2 hBwX hBX hb2 c0 c1 c2 c3 hlt2 hlt0 hs1 hs2 hs3
        have HX := Lib.hid hX
        clear hX
        go_wp2_with (at_builtin; rw [← HX.out]; refine wpList_append_lies _ rfl _ _ 29 rfl w.heap.size 35 i0 _ 4 48 Try.underlying29 hi0 hz0 hz1 hz2 rfl (by decide) u3 (l.take k).length _ rfl Hown0.out ⟨W2.heap.size + 1, 0, none⟩ 1 1 (CV.cells ⟨f, t, wi, ⟨A', sub.length, c'⟩⟩) rfl rfl (World.news_of_block HbT.out) (by simp [CV.cells, Value.oneCell']) (by omega) (by rw [Htl.out]; unfold maxLen; omega) (by rw [Htl.out]; omega) HBX.out.size X.heap.size rfl ?_)
        intro g cap w3 hown hgrow hg hgl
        have hss := HS.out
        have hB5 : Below w.heap.size w w3 := HBX.out.grown hgrow HBX.out.size (fun b hb => (Hlt0.out b hb).1)
        have hpush := TR.push Hown0.out How0.out hss.1 (Nat.le_refl _) hss.2.1 hss.2.2 ⟨f, t, wi, ⟨A', sub.length, c'⟩⟩ (.mk f t wi sub) Hox.out (g := g) (cap := cap) hgrow (by rw [Htl.out]; exact hown) hg hgrow.size
        rw [← Hts.out] at hpush
        rw [Htl.out] at hpush
        have HP := Lib.hid hpush
        clear hown hgrow hg hpush Hown0 How0 Hox HbT HBX HX hss HS Hlt0
        go_wp2_with fail
        go_roundw
        case rel => exact ⟨k + 1, _, by omega, by go_num, hB5, HP.out⟩
        case measure => simp [intOf]; omega
      · obtain rfl : k = l.length := by omega
        have hfin := hCR.out
        rw [List.take_length] at hfin
        have HF := Lib.hid hfin
        clear hCR hfin
        go_wp2_with fail
        go_ret
        exact ⟨_, L, rfl, HF.out, hBr⟩
end Go.Proofs.Ytlmbffnmjfbglab
