/- Arguments that are claims, opened with their sizes; claims lent. -/
import Derived.Test.YtlmbffnmjfbglabK1
import Derived.Test.YtlmbffnmjfbglabOC
set_option linter.unusedSimpArgs false
set_option linter.unusedVariables false
namespace Go.Proofs.Ytlmbffnmjfbglab
open Go.ChangeShapes Go.WideShapes Go.ChangeAt Go.RowKit Go.Deep

mutual
/-- no array below has more than N elements. -/
def Claim.sm (N : Nat) : Claim → Prop | .mk _ _ _ s => s.length ≤ N ∧ smL N s
def smL (N : Nat) : List Claim → Prop | [] => True | x :: r => x.sm N ∧ smL N r
end
theorem smL_get {N : Nat} : ∀ {l : List Claim} {i : Nat} (hi : i < l.length), smL N l → l[i].sm N
  | [], _, hi, _ => by simp at hi
  | x :: r, 0, _, h => by simp only [smL] at h; exact h.1
  | x :: r, i + 1, hi, h => by simp only [smL] at h; exact smL_get (l := r) (by simpa using hi) h.2
theorem smL_of {N : Nat} : ∀ {l : List Claim}, (∀ i (hi : i < l.length), l[i].sm N) → smL N l
  | [], _ => by simp only [smL]
  | x :: r, h => by
    simp only [smL]
    exact ⟨h 0 (by simp), smL_of fun i hi => h (i + 1) (by simpa using hi)⟩
theorem Claim.sm_sub {N : Nat} {x : Claim} (h : x.sm N) : x.sub.length ≤ N ∧ smL N x.sub := by
  cases x with
  | mk f t w s => simpa only [Claim.sm, Claim.sub] using h

section
variable {H : Type} {enc : TypeId × Value → H} {P : Program} {w : World} {base : Nat} {spare : Nat → Bool} {held : Bool}
theorem weightsAll_mem {e : TypeId} : ∀ {el : List (DataW H)} {d : DataW H} {n : Nat}, d ∈ el → n ∈ d.weights P e → n ∈ DataW.weightsAll P e el
  | [], _, _, h, _ => by simp at h
  | x :: r, d, n, h, hn => by
    simp only [DataW.weightsAll, List.mem_append]
    rcases List.mem_cons.1 h with rfl | h
    · exact .inl hn
    · exact .inr (weightsAll_mem h hn)
/-- a slice of structs of one-cell fields, with less fuel for its fields, and its elements' data. -/
theorem slice_less2 {t e : TypeId} {fs : Array Field} {fuel : Nat} {cs : List Value} {x : DataW H × List MemPlace} (ht : P.underlying t = some (.slice e)) (he : P.underlying e = some (.struct fs))
    (hone : oneCellFields P fs = true) (hC : P.cellsOf e = fs.size) (h : DataW.trod enc P w base spare held fuel t cs = some x) :
    cs = [.slice none 0 0] ∨
    ∃ (a : Addr) (len cap n : Nat) (el re : List (DataW H)), cs = [.slice (some a) len cap] ∧ len ≤ cap ∧ cap ≤ maxLen ∧ n < fuel ∧ x.1 = .slice el re ∧ el.length = len ∧
      ∀ i (hi : i < el.length), ∃ (ys : List (DataW H × List MemPlace)), el[i] = .agg (ys.map (·.1)) ∧ ∀ (j : Nat) (f : Field), fs[j]? = some f → ∃ (v : Value) (y : DataW H × List MemPlace), w.cell? (a.add (i * fs.size + j)) = some v ∧ ys[j]? = some y ∧ DataW.trod enc P w base spare held n f.type [v] = some y := by
  rcases DataW.trod_slice ht h with h0 | ⟨a, len, cap, elems, rest, n, hn, rfl, hx, _, hl, hm, hlen, hel, _, _⟩
  · exact .inl h0.1
  · refine .inr ⟨a, len, cap, n - 1, elems.map (·.1), rest.map (·.1), rfl, hl, hm, by omega, by rw [hx], by simpa using hlen, fun i hi => ?_⟩
    have hil : i < len := by rw [← hlen]; simpa using hi
    have key := hel i hil
    rw [List.getElem?_eq_getElem (by omega)] at key
    obtain ⟨cs', hc, ht'⟩ := Option.bind_eq_some_iff.1 key
    rw [hC] at hc
    obtain ⟨ys, n', hn', hy, _, hyl, hf⟩ := DataW.trod_struct he ht'
    obtain rfl : n' = n - 1 := by omega
    obtain ⟨_, hcl, hat⟩ := World.cells?_some hc
    refine ⟨ys, by rw [List.getElem_map, hy], fun j f hj => ?_⟩
    obtain ⟨ho, hk⟩ := hone_of hone j f hj
    have hjl : j < fs.size := (Array.getElem?_eq_some_iff.1 hj).1
    have hcell := hat j hjl
    have hv : cs'[j]? = some (cs'[j]'(by omega)) := List.getElem?_eq_getElem (by omega)
    have h1 := hf j f hj
    rw [ho, hk] at h1
    have hone' : (cs'.drop j).take 1 = [cs'[j]'(by omega)] := by
      rw [List.drop_eq_getElem_cons (by omega)]
      rfl
    rw [hone'] at h1
    have hys : ys[j]? = some (ys[j]'(by omega)) := List.getElem?_eq_getElem (by omega)
    refine ⟨_, _, ?_, hys, h1.trans hys⟩
    rw [← Go.Deep.add_add, hcell, hv]
end
theorem bytes35 : Try.prog.bytesOf 35 = 48 := by kernel_rfl
/-- how many claims an array may have. -/
def maxC : Nat := 2932031007317
set_option maxRecDepth 100000 in
theorem open_sized_at {H : Type} {enc : TypeId × Value → H} {W : World} : ∀ (fuel : Nat) (v : Value) (y : DataW H × List MemPlace), DataW.trod enc Try.prog W 0 (fun _ => true) true fuel 29 [v] = some y → (∀ n ∈ y.1.weights Try.prog 29, n ≤ reachBytes) →
    ∃ (A : Option Addr) (c : Nat) (l : List Claim), v = .slice A l.length c ∧ l.length ≤ c ∧ c ≤ maxLen ∧ RdK W A l ∧ l.length ≤ maxC ∧ smL maxC l := by
  intro fuel
  induction fuel using Nat.strongRecOn with
  | ind fuel ih =>
  intro v y h hz
  have hu : Try.prog.underlying 35 = some (.struct (Try.prog.fieldsOf 35)) := by kernel_rfl
  rcases slice_less2 Try.underlying29 hu (by kernel_rfl) (by kernel_rfl) h with hcs | ⟨a, len, cap, n, el, re, hcs, hl, hm, hn, hy, hel, hi⟩
  · injection hcs with hcs
    subst hcs
    exact ⟨none, 0, [], rfl, Nat.le_refl _, by simp [maxLen], fun h => absurd h (by simp), by simp, by simp only [smL]⟩
  · injection hcs with hcs
    subst hcs
    have h4 : (Try.prog.fieldsOf 35).size = 4 := by kernel_rfl
    rw [h4] at hi
    rw [hy] at hz
    simp only [DataW.weights, Try.underlying29] at hz
    have hz0 := hz ((el.length + re.length) * Try.prog.bytesOf 35) (by simp)
    have hlenC : len ≤ maxC := by
      rw [bytes35, hel] at hz0
      have hr : reachBytes = 140737488351232 := by decide
      unfold maxC
      omega
    have ea0 : 0 < len → a = ⟨a.block, a.off, none⟩ := fun hn0 => by
      obtain ⟨f, hf', _⟩ := Option.map_eq_some_iff.1 (show (Try.prog.fieldsOf 35)[0]?.map (·.type) = some 3 by kernel_rfl)
      obtain ⟨ys, _, hf⟩ := hi 0 (by omega)
      obtain ⟨v, y, hc, _⟩ := hf 0 f hf'
      have h := addr_of_cell hc
      have h0 : a.add (0 * 4 + 0) = a := by simp [Addr.add]
      rw [h0] at h
      exact h
    have hex : ∀ i, i < len → ∃ x : Claim, (RdC W (fun b => b < W.heap.size) a.block (a.off + i * 4) x ∧ a = ⟨a.block, a.off, none⟩ ∧ a.block < W.heap.size) ∧ x.sm maxC := by
      intro i hil
      obtain ⟨ys, hagg, hf⟩ := hi i (by omega)
      have geti : ∀ j, (Try.prog.fieldsOf 35)[j]?.map (·.type) = some 3 → ∃ x : Int, W.cell? (a.add (i * 4 + j)) = some (.int .i64 x) := by
        intro j hj
        obtain ⟨f, hf', hft⟩ := Option.map_eq_some_iff.1 hj
        obtain ⟨v, y, hc, _, ht⟩ := hf j f hf'
        rw [hft] at ht
        obtain ⟨x, hx, _, _⟩ := DataW.trod_int Try.underlying3 ht
        injection hx with hx
        subst hx
        exact ⟨x, hc⟩
      obtain ⟨x0, c0⟩ := geti 0 (by kernel_rfl)
      obtain ⟨x1, c1⟩ := geti 1 (by kernel_rfl)
      obtain ⟨x2, c2⟩ := geti 2 (by kernel_rfl)
      have h3 : (Try.prog.fieldsOf 35)[3]?.map (·.type) = some 29 := by kernel_rfl
      obtain ⟨f, hf', hft⟩ := Option.map_eq_some_iff.1 h3
      obtain ⟨v, y, c3, hy3, ht⟩ := hf 3 f hf'
      rw [hft] at ht
      have hzy : ∀ n ∈ y.1.weights Try.prog 29, n ≤ reachBytes := fun n hn => hz n (by
        refine List.mem_cons_of_mem _ (List.mem_append_left _ (weightsAll_mem (List.getElem_mem (show i < el.length by omega)) ?_))
        rw [hagg]
        simp only [DataW.weights, hu]
        refine DataW.weights_mem_each (j := 3) (t := 29) (d := y.1) ?_ ?_ n hn
        · have := h3
          rw [← Array.getElem?_toList] at this
          simpa using this
        · simp [hy3])
      obtain ⟨A', c', l, rfl, hlc, hcm, hr, hln, hsm⟩ := ih n hn v y ht hzy
      have ea := ea0 (by omega)
      have hblk := World.block_lt_of_cell? W _ c0
      rw [ea, add_none] at c0 c1 c2 c3 hblk
      refine ⟨.mk x0 x1 x2 l, ⟨?_, ea, hblk⟩, by simp only [Claim.sm]; exact ⟨hln, hsm⟩⟩
      simp only [RdC]
      exact ⟨c0, by rw [Nat.add_assoc]; exact c1, by rw [Nat.add_assoc]; exact c2, A', c', by rw [Nat.add_assoc]; exact c3, hlc, hcm, hr⟩
    obtain ⟨l, hll, hlp⟩ := list_of len _ hex
    subst hll
    refine ⟨some a, cap, l, rfl, hl, hm, fun hn => ?_, hlenC, smL_of fun i hi => (hlp i hi).2⟩
    obtain ⟨⟨_, ea, hb⟩, _⟩ := hlp 0 hn
    exact ⟨a.block, a.off, by rw [← ea], hb, RdL.of_ l _ fun i hi => (hlp i hi).1.1⟩

/-- the mark behind claims. -/
def markC (i : Nat) : Claim := .mk (markI i) 0 0 []
/-- twelve marks behind n claims. -/
def MkL (w : World) (g n : Nat) : Prop := ∀ i, i < 12 → w.cell? ⟨g, (n + i) * 4, none⟩ = some (.int .i64 (markI i)) ∧ w.cell? ⟨g, (n + i) * 4 + 1, none⟩ = some (.int .i64 0) ∧ w.cell? ⟨g, (n + i) * 4 + 2, none⟩ = some (.int .i64 0) ∧ w.cell? ⟨g, (n + i) * 4 + 3, none⟩ = some (.slice none 0 0)
mutual
/-- a claim lent: each array below has twelve marks behind it. -/
def LdC (w : World) (Q : Nat → Prop) (b o : Nat) : Claim → Prop
  | .mk f t wi sub => w.cell? ⟨b, o, none⟩ = some (.int .i64 f) ∧ w.cell? ⟨b, o + 1, none⟩ = some (.int .i64 t) ∧ w.cell? ⟨b, o + 2, none⟩ = some (.int .i64 wi) ∧
      ∃ g c, w.cell? ⟨b, o + 3, none⟩ = some (.slice (some ⟨g, 0, none⟩) sub.length c) ∧ sub.length + 12 ≤ c ∧ c ≤ maxLen ∧ Q g ∧ LdL w Q g 0 sub ∧ MkL w g sub.length
def LdL (w : World) (Q : Nat → Prop) (b o : Nat) : List Claim → Prop
  | [] => True
  | x :: r => LdC w Q b o x ∧ LdL w Q b (o + 4) r
end
theorem MkL.keep {w w' : World} {g n : Nat} (h : MkL w g n) (ht : ∀ o, w'.cell? ⟨g, o, none⟩ = w.cell? ⟨g, o, none⟩) : MkL w' g n := fun i hi => by
  obtain ⟨a, b, c, d⟩ := h i hi
  exact ⟨(ht _).trans a, (ht _).trans b, (ht _).trans c, (ht _).trans d⟩
mutual
theorem LdC.keep {w w' : World} {Q Q' : Nat → Prop} (h : ∀ b, Q b → (∀ o, w'.cell? ⟨b, o, none⟩ = w.cell? ⟨b, o, none⟩) ∧ Q' b) (b o : Nat) (ht : ∀ o, w'.cell? ⟨b, o, none⟩ = w.cell? ⟨b, o, none⟩) : ∀ x : Claim, LdC w Q b o x → LdC w' Q' b o x
  | .mk f t wi sub, hx => by
    simp only [LdC] at hx ⊢
    obtain ⟨h0, h1, h2, g, c, h3, h4, h5, h6, h7, h8⟩ := hx
    exact ⟨(ht _).trans h0, (ht _).trans h1, (ht _).trans h2, g, c, (ht _).trans h3, h4, h5, (h g h6).2, LdL.keep h g 0 (h g h6).1 sub h7, h8.keep (h g h6).1⟩
theorem LdL.keep {w w' : World} {Q Q' : Nat → Prop} (h : ∀ b, Q b → (∀ o, w'.cell? ⟨b, o, none⟩ = w.cell? ⟨b, o, none⟩) ∧ Q' b) (b o : Nat) (ht : ∀ o, w'.cell? ⟨b, o, none⟩ = w.cell? ⟨b, o, none⟩) : ∀ l : List Claim, LdL w Q b o l → LdL w' Q' b o l
  | [], _ => by simp only [LdL]
  | x :: r, hx => by
    simp only [LdL] at hx ⊢
    exact ⟨LdC.keep h b o ht x hx.1, LdL.keep h b (o + 4) ht r hx.2⟩
end
mutual
theorem LdC.rd {w : World} {Q : Nat → Prop} (b o : Nat) : ∀ x : Claim, LdC w Q b o x → RdC w Q b o x
  | .mk f t wi sub, hx => by
    simp only [LdC] at hx
    simp only [RdC]
    obtain ⟨h0, h1, h2, g, c, h3, h4, h5, h6, h7, h8⟩ := hx
    exact ⟨h0, h1, h2, _, c, h3, by omega, h5, fun _ => ⟨g, 0, rfl, h6, LdL.rd g 0 sub h7⟩⟩
theorem LdL.rd {w : World} {Q : Nat → Prop} (b o : Nat) : ∀ l : List Claim, LdL w Q b o l → RdL w Q b o l
  | [], _ => by simp only [RdL]
  | x :: r, hx => by
    simp only [LdL] at hx
    simp only [RdL]
    exact ⟨LdC.rd b o x hx.1, LdL.rd b (o + 4) r hx.2⟩
end
theorem LdL.at_ {w : World} {Q : Nat → Prop} {b : Nat} : ∀ (l : List Claim) (o i : Nat) (hi : i < l.length), LdL w Q b o l → LdC w Q b (o + i * 4) l[i]
  | [], _, _, hi, _ => by simp at hi
  | x :: r, o, 0, _, h => by simp only [LdL] at h; simpa using h.1
  | x :: r, o, i + 1, hi, h => by
    simp only [LdL] at h
    have := LdL.at_ r (o + 4) i (by simpa using hi) h.2
    have e : o + 4 + i * 4 = o + (i + 1) * 4 := by omega
    rw [e] at this
    simpa using this
theorem LdL.of_ {w : World} {Q : Nat → Prop} {b : Nat} : ∀ (l : List Claim) (o : Nat), (∀ i (hi : i < l.length), LdC w Q b (o + i * 4) l[i]) → LdL w Q b o l
  | [], _, _ => by simp only [LdL]
  | x :: r, o, h => by
    simp only [LdL]
    refine ⟨by have := h 0 (by simp); simpa using this, LdL.of_ r (o + 4) fun i hi => ?_⟩
    have := h (i + 1) (by simpa using hi)
    have e : o + 4 + i * 4 = o + (i + 1) * 4 := by omega
    rw [e]
    simpa using this
/-- a slice of claims lent. -/
def LdS (w : World) (Q : Nat → Prop) (v : Value) (l : List Claim) : Prop := ∃ g c, v = .slice (some ⟨g, 0, none⟩) l.length c ∧ l.length + 12 ≤ c ∧ c ≤ maxLen ∧ Q g ∧ LdL w Q g 0 l ∧ MkL w g l.length
theorem LdS.keep {w w' : World} {Q Q' : Nat → Prop} {v : Value} {l : List Claim} (hs : LdS w Q v l) (h : ∀ b, Q b → (∀ o, w'.cell? ⟨b, o, none⟩ = w.cell? ⟨b, o, none⟩) ∧ Q' b) : LdS w' Q' v l := by
  obtain ⟨g, c, h1, h2, h3, h4, h5, h6⟩ := hs
  exact ⟨g, c, h1, h2, h3, (h g h4).2, LdL.keep h g 0 (h g h4).1 l h5, h6.keep (h g h4).1⟩
abbrev LdK (w : World) (v : Value) (l : List Claim) : Prop := LdS w (fun b => b < w.heap.size) v l
theorem LdK.next {w w' : World} {v : Value} {l : List Claim} (hs : LdK w v l) (hb : Below w.heap.size w w') : LdK w' v l :=
  LdS.keep hs fun b hlt => ⟨fun _ => World.cell?_of_block (hb.block b hlt), Nat.lt_of_lt_of_le hlt hb.size⟩
theorem LdK.rd {w : World} {v : Value} {l : List Claim} (hs : LdK w v l) : ∃ A c, v = .slice A l.length c ∧ l.length ≤ c ∧ c ≤ maxLen ∧ RdK w A l := by
  obtain ⟨g, c, h1, h2, h3, h4, h5, h6⟩ := hs
  exact ⟨_, c, h1, by omega, h3, fun _ => ⟨g, 0, rfl, h4, LdL.rd g 0 l h5⟩⟩
end Go.Proofs.Ytlmbffnmjfbglab
