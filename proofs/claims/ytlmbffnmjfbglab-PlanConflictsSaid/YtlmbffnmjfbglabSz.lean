/- How large what came in may be. -/
import Derived.Test.YtlmbffnmjfbglabwC0
import Derived.SizedLaws
import Derived.Handed
set_option linter.unusedSimpArgs false
set_option linter.unusedVariables false
namespace Go.Proofs.Ytlmbffnmjfbglab
open Go.ChangeShapes Go.WideShapes Go.ChangeAt Go.RowKit Go.Deep

theorem bytes56 : Try.prog.bytesOf 56 = 152 := by kernel_rfl
set_option maxRecDepth 100000 in
theorem sz_module {H : Type} {enc : TypeId × Value → H} {W : World} {r : Reach} {b0 : Nat} {v : Value} {d : DataW H} {p : List MemPlace} (hok : Value.okWide Try.prog W r b0 24 v) (h : DataW.Trod enc Try.prog W 0 (fun _ => true) true 24 v d p)
    (hz : ∀ n ∈ d.weights Try.prog 24, n ≤ reachBytes) {a b c : Value} {A : Option Addr} {len cap : Nat} (e : v = .agg #[a, b, c, .slice A len cap]) : len * 8 ≤ 140737488355328 := by
  obtain ⟨f0, f1, f2, f3, hs, ht0, ht1, ht2, ht3⟩ : ∃ f0 f1 f2 f3 : Field, Try.prog.underlying 24 = some (.struct #[f0, f1, f2, f3]) ∧ f0.type = 9 ∧ f1.type = 3 ∧ f2.type = 3 ∧ f3.type = 22 := ⟨_, _, _, _, Try.underlying24, rfl, rfl, rfl, rfl⟩
  have hone : oneCellFields Try.prog #[f0, f1, f2, f3] = true := by
    have e : oneCellFields Try.prog (Try.prog.fieldsOf 24) = true := by kernel_rfl
    have e2 : Try.prog.fieldsOf 24 = #[f0, f1, f2, f3] := by simp [Program.fieldsOf, hs]
    rw [e2] at e; exact e
  obtain ⟨v0, v1, v2, v3, y0, y1, y2, y3, n, hv, hd, hp, g0, g1, g2, g3⟩ := Joins.open_agg4 hs hone (by kernel_rfl) hok h
  rw [ht3] at g3
  subst e
  injection hv with hv
  have e3 : v3 = .slice A len cap := by
    have := congrArg (fun (x : Array Value) => x[3]?) hv
    simpa using this.symm
  subst e3
  subst hd
  have hu : Try.prog.underlying 56 = some (.struct (Try.prog.fieldsOf 56)) := by kernel_rfl
  rcases open_slice_fields Try.underlying22 hu (by kernel_rfl) (by kernel_rfl) g3 with ⟨hcs, _⟩ | ⟨a', len', cap', m, D, Pl, hcs, _, hl, hm, hmm, hx, _⟩
  · injection hcs with hcs
    injection hcs with _ h2 _
    subst h2
    omega
  · injection hcs with hcs
    injection hcs with _ h2 h3
    subst h2 h3
    have hw := hz ((((List.range len).map D).length + ((List.range (m - len)).map fun j => D (len + j)).length) * Try.prog.bytesOf 56) (by
      simp only [DataW.weights, hs]
      refine DataW.weights_mem_each (j := 3) (t := 22) (d := y3.1) (by simp [ht3]) (by simp) _ ?_
      rw [hx]
      simp [DataW.weights, Try.underlying22])
    rw [bytes56] at hw
    have hr := reachBytes_lt
    simp at hw
    omega


theorem bytes3 : Try.prog.bytesOf 3 = 8 := by kernel_rfl
theorem sz_ints {H : Type} {enc : TypeId × Value → H} {W : World} {d : DataW H} {p : List MemPlace} {A : Option Addr} {len cap : Nat} (h : DataW.Trod enc Try.prog W 0 (fun _ => true) true 28 (.slice A len cap) d p)
    (hz : ∀ n ∈ d.weights Try.prog 28, n ≤ reachBytes) : len * 8 ≤ 140737488351232 := by
  obtain ⟨fuel, hf⟩ := h
  rcases open_ints Try.underlying28 Try.underlying3 (by kernel_rfl) hf with ⟨hcs, _⟩ | ⟨a', len', cap', zs, hcs, _, hl, hm, hzl, hx, _, _⟩
  · simp [Value.cells] at hcs
    omega
  · simp [Value.cells] at hcs
    obtain ⟨rfl, rfl, rfl⟩ := hcs
    simp at hzl
    have hd : d = .slice (lits .i64 (zs.take len)) (lits .i64 (zs.drop len)) := congrArg Prod.fst hx
    subst hd
    have hw := hz (((lits (H := H) .i64 (zs.take len)).length + (lits (H := H) .i64 (zs.drop len)).length) * Try.prog.bytesOf 3) (by
      simp [DataW.weights, Try.underlying28])
    rw [bytes3] at hw
    have hr : reachBytes = 140737488351232 := by decide
    simp [lits] at hw
    omega
end Go.Proofs.Ytlmbffnmjfbglab
