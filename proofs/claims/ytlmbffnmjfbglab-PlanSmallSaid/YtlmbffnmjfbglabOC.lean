/- Arguments that are claims, opened. -/
import Derived.Test.YtlmbffnmjfbglabG7
namespace Go.Proofs.Ytlmbffnmjfbglab
open Go.ChangeShapes Go.WideShapes Go.ChangeAt Go.RowKit Go.Deep

section
variable {H : Type} {enc : TypeId × Value → H} {P : Program} {w : World} {base : Nat} {spare : Nat → Bool} {held : Bool}
/-- a slice of structs of one-cell fields, with less fuel for its fields. -/
theorem slice_less {t e : TypeId} {fs : Array Field} {fuel : Nat} {cs : List Value} {x : DataW H × List MemPlace} (ht : P.underlying t = some (.slice e)) (he : P.underlying e = some (.struct fs))
    (hone : oneCellFields P fs = true) (hC : P.cellsOf e = fs.size) (h : DataW.trod enc P w base spare held fuel t cs = some x) :
    cs = [.slice none 0 0] ∨
    ∃ (a : Addr) (len cap n : Nat), cs = [.slice (some a) len cap] ∧ len ≤ cap ∧ cap ≤ maxLen ∧ n < fuel ∧
      ∀ i, i < len → ∀ (j : Nat) (f : Field), fs[j]? = some f → ∃ (v : Value) (y : DataW H × List MemPlace), w.cell? (a.add (i * fs.size + j)) = some v ∧ DataW.trod enc P w base spare held n f.type [v] = some y := by
  rcases DataW.trod_slice ht h with h0 | ⟨a, len, cap, elems, rest, n, hn, rfl, _, _, hl, hm, hlen, hel, _, _⟩
  · exact .inl h0.1
  · refine .inr ⟨a, len, cap, n - 1, rfl, hl, hm, by omega, fun i hil j f hj => ?_⟩
    have key := hel i hil
    rw [List.getElem?_eq_getElem (by omega)] at key
    obtain ⟨cs', hc, ht'⟩ := Option.bind_eq_some_iff.1 key
    rw [hC] at hc
    obtain ⟨ys, n', hn', _, _, hyl, hf⟩ := DataW.trod_struct he ht'
    obtain rfl : n' = n - 1 := by omega
    obtain ⟨_, hcl, hat⟩ := World.cells?_some hc
    obtain ⟨ho, hk⟩ := hone_of hone j f hj
    have hjl : j < fs.size := (Array.getElem?_eq_some_iff.1 hj).1
    have hcell := hat j hjl
    have hv : cs'[j]? = some (cs'[j]'(by omega)) := List.getElem?_eq_getElem (by omega)
    have h1 := hf j f hj
    rw [ho, hk] at h1
    have hone' : (cs'.drop j).take 1 = [cs'[j]'(by omega)] := by
      rw [List.drop_eq_getElem_cons (by omega)]
      rfl
    rw [hone'] at h1
    have hys : ys[j]? = some (ys[j]'(by omega)) := List.getElem?_eq_getElem (by omega)
    refine ⟨_, _, ?_, h1.trans hys⟩
    rw [← Go.Deep.add_add, hcell, hv]
end

set_option maxRecDepth 100000 in
theorem open_claims_at {H : Type} {enc : TypeId × Value → H} {W : World} : ∀ (fuel : Nat) (v : Value) (y : DataW H × List MemPlace), DataW.trod enc Try.prog W 0 (fun _ => true) true fuel 29 [v] = some y →
    ∃ (A : Option Addr) (c : Nat) (l : List Claim), v = .slice A l.length c ∧ l.length ≤ c ∧ c ≤ maxLen ∧ RdK W A l := by
  intro fuel
  induction fuel using Nat.strongRecOn with
  | ind fuel ih =>
  intro v y h
  have hu : Try.prog.underlying 35 = some (.struct (Try.prog.fieldsOf 35)) := by kernel_rfl
  rcases slice_less Try.underlying29 hu (by kernel_rfl) (by kernel_rfl) h with hcs | ⟨a, len, cap, n, hcs, hl, hm, hn, hi⟩
  · injection hcs with hcs
    subst hcs
    exact ⟨none, 0, [], rfl, Nat.le_refl _, by simp [maxLen], fun h => absurd h (by simp)⟩
  · injection hcs with hcs
    subst hcs
    have h4 : (Try.prog.fieldsOf 35).size = 4 := by kernel_rfl
    rw [h4] at hi
    have ea0 : 0 < len → a = ⟨a.block, a.off, none⟩ := fun hn0 => by
      obtain ⟨f, hf', _⟩ := Option.map_eq_some_iff.1 (show (Try.prog.fieldsOf 35)[0]?.map (·.type) = some 3 by kernel_rfl)
      obtain ⟨v, y, hc, _⟩ := hi 0 hn0 0 f hf'
      have h := addr_of_cell hc
      have h0 : a.add (0 * 4 + 0) = a := by simp [Addr.add]
      rw [h0] at h
      exact h
    have hex : ∀ i, i < len → ∃ x : Claim, RdC W (fun b => b < W.heap.size) a.block (a.off + i * 4) x ∧ a = ⟨a.block, a.off, none⟩ ∧ a.block < W.heap.size := by
      intro i hil
      have geti : ∀ j, (Try.prog.fieldsOf 35)[j]?.map (·.type) = some 3 → ∃ x : Int, W.cell? (a.add (i * 4 + j)) = some (.int .i64 x) := by
        intro j hj
        obtain ⟨f, hf', hft⟩ := Option.map_eq_some_iff.1 hj
        obtain ⟨v, y, hc, ht⟩ := hi i hil j f hf'
        rw [hft] at ht
        obtain ⟨x, hx, _, _⟩ := DataW.trod_int Try.underlying3 ht
        injection hx with hx
        subst hx
        exact ⟨x, hc⟩
      obtain ⟨x0, c0⟩ := geti 0 (by kernel_rfl)
      obtain ⟨x1, c1⟩ := geti 1 (by kernel_rfl)
      obtain ⟨x2, c2⟩ := geti 2 (by kernel_rfl)
      have h3 : (Try.prog.fieldsOf 35)[3]?.map (·.type) = some 29 := by kernel_rfl
      obtain ⟨f, hf', hft⟩ := Option.map_eq_some_iff.1 h3
      obtain ⟨v, y, c3, ht⟩ := hi i hil 3 f hf'
      rw [hft] at ht
      obtain ⟨A', c', l, rfl, hlc, hcm, hr⟩ := ih n hn v y ht
      have ea := ea0 (by omega)
      have hblk := World.block_lt_of_cell? W _ c0
      rw [ea, add_none] at c0 c1 c2 c3 hblk
      refine ⟨.mk x0 x1 x2 l, ?_, ea, hblk⟩
      simp only [RdC]
      exact ⟨c0, by rw [Nat.add_assoc]; exact c1, by rw [Nat.add_assoc]; exact c2, A', c', by rw [Nat.add_assoc]; exact c3, hlc, hcm, hr⟩
    obtain ⟨l, hll, hlp⟩ := list_of len _ hex
    subst hll
    refine ⟨some a, cap, l, rfl, hl, hm, fun hn => ?_⟩
    obtain ⟨_, ea, hb⟩ := hlp 0 hn
    exact ⟨a.block, a.off, by rw [← ea], hb, RdL.of_ l _ fun i hi => (hlp i hi).1⟩
set_option maxRecDepth 100000 in
/-- an argument of claims. -/
theorem open_claims {H : Type} {enc : TypeId × Value → H} {W : World} {r : Reach} {b0 : Nat} {v : Value} {d : DataW H} {p : List MemPlace} (hok : Value.okWide Try.prog W r b0 29 v) (h : DataW.Trod enc Try.prog W 0 (fun _ => true) true 29 v d p) :
    ∃ (A : Option Addr) (c : Nat) (l : List Claim), v = .slice A l.length c ∧ l.length ≤ c ∧ c ≤ maxLen ∧ RdK W A l ∧ True := by
  obtain ⟨a, len, cap, rfl⟩ := okWide_slice Try.underlying29 hok
  obtain ⟨fuel, hf⟩ := h
  obtain ⟨A, c, l, e, h1, h2, h3⟩ := open_claims_at fuel (.slice a len cap) (d, p) (by simpa [Value.cells] using hf)
  exact ⟨A, c, l, e, h1, h2, h3, trivial⟩
end Go.Proofs.Ytlmbffnmjfbglab
