/- An argument of type api.Module opened; what Layout's regions are, one by one. -/
import Derived.Test.YtjgmdchlgabflaaC0
import Derived.Lib.SmallJoins
namespace Go.Proofs.Ytjgmdchlgabflaa
open Go.ChangeShapes Go.WideShapes Go.ChangeAt Go.RowKit Go.Deep

def PartOk (x : Part) : Prop := IntOk x.period ∧ IntOk x.length ∧ IntOk x.mem ∧ IntOk x.events ∧ IntOk x.boards
section
variable {H : Type} {enc : TypeId × Value → H} {P : Program} {w : World} {base : Nat} {spare : Nat → Bool} {held : Bool}
theorem slv_of {t e : TypeId} {fuel : Nat} {v : Value} {x : DataW H × List MemPlace} (ht : P.underlying t = some (.slice e)) (h : DataW.trod enc P w base spare held fuel t [v] = some x) : ∃ s : SlV, v = .slice s.a s.n s.c := by
  rcases DataW.trod_slice ht h with ⟨hcs, _⟩ | ⟨a, len, cap, _, _, _, _, hcs, _⟩
  · injection hcs with hcs; exact ⟨⟨none, 0, 0⟩, hcs⟩
  · injection hcs with hcs; exact ⟨⟨some a, len, cap⟩, hcs⟩
end

set_option maxRecDepth 100000 in
set_option maxHeartbeats 1000000 in
theorem open_parts {H : Type} {enc : TypeId × Value → H} {W : World} {fuel : Nat} {v : Value} {y : DataW H × List MemPlace} (hf : DataW.trod enc Try.prog W 0 (fun _ => true) true fuel 31 [v] = some y) :
    ∃ (A : Option Addr) (c : Nat) (l : List Part), v = .slice A l.length c ∧ l.length ≤ c ∧ c ≤ maxLen ∧ RdPart W W.heap.size A l ∧ ∀ x ∈ l, PartOk x := by
  have hu : Try.prog.underlying 38 = some (.struct (Try.prog.fieldsOf 38)) := by kernel_rfl
  rcases open_slice_fields Try.underlying31 hu (by kernel_rfl) (by kernel_rfl) hf with ⟨hcs, _⟩ | ⟨a', len, cap, m, D, Pl, hcs, _, hl, hm, hmm, _, hi⟩
  · injection hcs with hcs
    subst hcs
    exact ⟨none, 0, [], rfl, Nat.le_refl _, by simp [maxLen], fun h => absurd h (by simp), fun x hx => by simp at hx⟩
  · injection hcs with hcs
    subst hcs
    simp at hmm
    subst hmm
    have h3 : (Try.prog.fieldsOf 38).size = 10 := by kernel_rfl
    have hex : ∀ i, i < len → ∃ x : Part, (∀ j v, x.cells[j]? = some v → W.cell? (a'.add (i * 10 + j)) = some v) ∧ PartOk x := by
      intro i hil
      obtain ⟨ys, n, _, _, _, hf⟩ := hi i (by omega)
      rw [h3] at hf
      have geti : ∀ j, (Try.prog.fieldsOf 38)[j]?.map (·.type) = some 3 → ∃ x : Int, W.cell? (a'.add (i * 10 + j)) = some (.int .i64 x) ∧ IntOk x := by
        intro j hj
        obtain ⟨f, hf', hft⟩ := Option.map_eq_some_iff.1 hj
        obtain ⟨v, y, hc, _, ht⟩ := hf j f hf'
        rw [hft] at ht
        obtain ⟨x, hx, _, hw⟩ := DataW.trod_int Try.underlying3 ht
        injection hx with hx
        subst hx
        exact ⟨x, hc, intOk_of hw⟩
      have gets : ∀ j t e, (Try.prog.fieldsOf 38)[j]?.map (·.type) = some t → Try.prog.underlying t = some (.slice e) → ∃ s : SlV, W.cell? (a'.add (i * 10 + j)) = some (.slice s.a s.n s.c) := by
        intro j t e hj hte
        obtain ⟨f, hf', hft⟩ := Option.map_eq_some_iff.1 hj
        obtain ⟨v, y, hc, _, ht⟩ := hf j f hf'
        rw [hft] at ht
        obtain ⟨s, rfl⟩ := slv_of hte ht
        exact ⟨s, hc⟩
      have getn : ∃ s : ByteArray, W.cell? (a'.add (i * 10 + 0)) = some (.string s) := by
        obtain ⟨f, hf', hft⟩ := Option.map_eq_some_iff.1 (show (Try.prog.fieldsOf 38)[0]?.map (·.type) = some 9 by kernel_rfl)
        obtain ⟨v, y, hc, _, ht⟩ := hf 0 f hf'
        rw [hft] at ht
        obtain ⟨x, hx, _, _⟩ := DataW.trod_string Try.underlying9 ht
        injection hx with hx
        subst hx
        exact ⟨x, hc⟩
      obtain ⟨x0, c0⟩ := getn
      obtain ⟨x1, c1, k1⟩ := geti 1 (by kernel_rfl)
      obtain ⟨x2, c2, k2⟩ := geti 2 (by kernel_rfl)
      obtain ⟨x3, c3, k3⟩ := geti 3 (by kernel_rfl)
      obtain ⟨x4, c4⟩ := gets 4 34 3 (by kernel_rfl) Try.underlying34
      obtain ⟨x5, c5, k5⟩ := geti 5 (by kernel_rfl)
      obtain ⟨x6, c6, k6⟩ := geti 6 (by kernel_rfl)
      obtain ⟨x7, c7⟩ := gets 7 34 3 (by kernel_rfl) Try.underlying34
      obtain ⟨x8, c8⟩ := gets 8 35 130 (by kernel_rfl) Try.underlying35
      obtain ⟨x9, c9⟩ := gets 9 36 133 (by kernel_rfl) Try.underlying36
      refine ⟨⟨x0, x1, x2, x3, x4, x5, x6, x7, x8, x9⟩, fun j v hv => ?_, k1, k2, k3, k5, k6⟩
      match j with
      | 0 => injection hv with hv; subst hv; exact c0
      | 1 => injection hv with hv; subst hv; exact c1
      | 2 => injection hv with hv; subst hv; exact c2
      | 3 => injection hv with hv; subst hv; exact c3
      | 4 => injection hv with hv; subst hv; exact c4
      | 5 => injection hv with hv; subst hv; exact c5
      | 6 => injection hv with hv; subst hv; exact c6
      | 7 => injection hv with hv; subst hv; exact c7
      | 8 => injection hv with hv; subst hv; exact c8
      | 9 => injection hv with hv; subst hv; exact c9
      | j + 10 => simp [Part.cells] at hv
    obtain ⟨l, hll, hlp⟩ := list_of len _ hex
    subst hll
    refine ⟨some a', _, l, rfl, hl, hm, fun hn => ?_, fun x hx => ?_⟩
    · have hc0 := (hlp 0 hn).1 0 _ rfl
      have e0 : a'.add (0 * 10 + 0) = a' := by simp [Addr.add]
      rw [e0] at hc0
      have ea := addr_of_cell hc0
      refine ⟨a'.block, a'.off, by rw [← ea], World.block_lt_of_cell? W _ hc0, fun i hil j v hv => ?_⟩
      have h1 := (hlp i hil).1 j v hv
      rw [ea, add_none] at h1
      rw [Nat.add_assoc]
      exact h1
    · obtain ⟨i, hil, rfl⟩ := List.getElem_of_mem hx
      exact (hlp i hil).2

set_option maxRecDepth 100000 in
theorem open_module {H : Type} {enc : TypeId × Value → H} {W : World} {r : Reach} {b0 : Nat} {v : Value} {d : DataW H} {p : List MemPlace} (hok : Value.okWide Try.prog W r b0 33 v) (h : DataW.Trod enc Try.prog W 0 (fun _ => true) true 33 v d p) :
    ∃ (name : ByteArray) (mem frame : Int) (A : Option Addr) (c : Nat) (l : List Part), v = .agg #[.string name, .int .i64 mem, .int .i64 frame, .slice A l.length c] ∧ IntOk mem ∧ IntOk frame ∧ l.length ≤ c ∧ c ≤ maxLen ∧ RdPart W W.heap.size A l ∧ ∀ x ∈ l, PartOk x := by
  obtain ⟨f0, f1, f2, f3, hs, ht0, ht1, ht2, ht3⟩ : ∃ f0 f1 f2 f3 : Field, Try.prog.underlying 33 = some (.struct #[f0, f1, f2, f3]) ∧ f0.type = 9 ∧ f1.type = 3 ∧ f2.type = 3 ∧ f3.type = 31 := ⟨_, _, _, _, Try.underlying33, rfl, rfl, rfl, rfl⟩
  have hone : oneCellFields Try.prog #[f0, f1, f2, f3] = true := by
    have e : oneCellFields Try.prog (Try.prog.fieldsOf 33) = true := by kernel_rfl
    have e2 : Try.prog.fieldsOf 33 = #[f0, f1, f2, f3] := by simp [Program.fieldsOf, hs]
    rw [e2] at e; exact e
  obtain ⟨v0, v1, v2, v3, y0, y1, y2, y3, n, rfl, _, _, g0, g1, g2, g3⟩ := Joins.open_agg4 hs hone (by kernel_rfl) hok h
  rw [ht0] at g0
  rw [ht1] at g1
  rw [ht2] at g2
  rw [ht3] at g3
  obtain ⟨name, e0, _, _⟩ := DataW.trod_string Try.underlying9 g0
  obtain ⟨mem, e1, _, k1⟩ := DataW.trod_int Try.underlying3 g1
  obtain ⟨frame, e2, _, k2⟩ := DataW.trod_int Try.underlying3 g2
  obtain ⟨A, c, l, rfl, hlc, hcm, hR, hP⟩ := open_parts g3
  injection e0 with e0
  injection e1 with e1
  injection e2 with e2
  subst e0 e1 e2
  exact ⟨name, mem, frame, A, c, l, rfl, intOk_of k1, intOk_of k2, hlc, hcm, hR, hP⟩

/-- the region number i of a layout. -/
theorem layTo_get (ms : List Int) (k : Nat) (hk : k ≤ ms.length) (i : Nat) (hi : i < (layTo ms k).1.length) : ∃ hi' : i < ms.length, (layTo ms k).1[i] = ⟨i, ((layTo ms i).2 + 8 - 1) / 8 * 8, ms[i]⟩ := by
  induction k with
  | zero => simp [layTo_zero] at hi
  | succ k ih =>
    have hl := layTo_len ms k (by omega)
    have hl' := layTo_len ms (k + 1) hk
    refine ⟨by omega, ?_⟩
    have hs := layTo_succ ms k (by omega)
    have hgen : ∀ (q : List Reg × Int) (hq : q = layTo ms (k + 1)) (hi : i < q.1.length), q.1[i] = ⟨i, ((layTo ms i).2 + 8 - 1) / 8 * 8, ms[i]'(by rw [hq] at hi; omega)⟩ := by
      intro q hq hi
      rw [hs] at hq
      subst hq
      simp only [layStep]
      by_cases e : i < (layTo ms k).1.length
      · rw [List.getElem_append_left e]
        exact (ih (by omega) e).2
      · have : i = k := by simp [layStep] at hi; omega
        subst this
        rw [List.getElem_append_right (by omega)]
        simp [hl]
    exact hgen _ rfl hi
end Go.Proofs.Ytjgmdchlgabflaa
