/- What Plan returns depends on the periods and lengths of the partitions alone; the parts of a module as data. -/
import Derived.Test.YtlmbffnmjfbglabDn
import Derived.Test.YtlmbffnmjfbglabT2
set_option linter.unusedSimpArgs false
set_option linter.unusedVariables false
namespace Go.Proofs.Ytlmbffnmjfbglab
open Go.ChangeShapes Go.WideShapes Go.ChangeAt Go.RowKit Go.Deep

/-- period and length. -/
def pl (p : Part) : Int × Int := (p.period, p.length)
section
variable {ps ps' : List Part} (h : ps.map pl = ps'.map pl)
include h
theorem cong_get (k : Nat) : pl (ps.getD k default) = pl (ps'.getD k default) := by
  have e : ∀ qs : List Part, pl (qs.getD k default) = (qs.map pl).getD k (pl default) := fun qs => by
    simp only [List.getD_eq_getElem?_getD, List.getElem?_map]
    cases qs[k]? <;> rfl
  rw [e, e, h]
theorem cong_len : ps.length = ps'.length := by simpa using congrArg List.length h
theorem cong_per (k : Nat) : (ps.getD k default).period = (ps'.getD k default).period := congrArg Prod.fst (cong_get h k)
theorem cong_lng (k : Nat) : (ps.getD k default).length = (ps'.getD k default).length := congrArg Prod.snd (cong_get h k)
theorem cong_slot (k : Nat) (o : Int) : pslot ps k o = pslot ps' k o := by unfold pslot; rw [cong_per h, cong_lng h]
theorem cong_clash (os : List Int) (j : Nat) (o : Int) : clashP ps os j o = clashP ps' os j o := by unfold clashP; rw [cong_slot h, cong_slot h]
theorem cong_confl (os : List Int) (o : Int) : conflP ps os o = conflP ps' os o := by
  unfold conflP
  rw [show (fun j => clashP ps os j o) = fun j => clashP ps' os j o from funext fun j => cong_clash h os j o]
theorem cong_noff (k : Nat) : nOff ps k = nOff ps' k := by unfold nOff; rw [cong_per h, cong_lng h]
theorem cong_one (rec : List Int → Nat → Res) (os : List Int) (o : Int) (cl : List Claim) (t : Nat) : oneR ps rec os o cl t = oneR ps' rec os o cl t := by unfold oneR; rw [cong_confl h]
theorem cong_pref (rec : List Int → Nat → Res) (os : List Int) (t : Nat) : ∀ k, prefR ps rec os t k = prefR ps' rec os t k
  | 0 => rfl
  | k + 1 => by
    simp only [prefR]
    rw [cong_pref rec os t k]
    cases prefR ps' rec os t k with
    | stop a e => rfl
    | claims cl t' => exact cong_one h rec os k cl t'
theorem cong_try : ∀ r, tryR ps r = tryR ps' r
  | 0 => rfl
  | r + 1 => by
    funext os t
    simp only [tryR]
    rw [cong_try r, cong_noff h, cong_pref h]
theorem cong_times (F : Int) : timesV F ps = timesV F ps' := by
  have e : ∀ qs : List Part, qs.any (timeBad F) = (qs.map pl).any (fun q => decide (q.1 < 1) || (decide (F % q.1 ≠ 0) || (decide (q.2 < 1) || decide (q.1 < q.2)))) := fun qs => by
    rw [List.any_map]; rfl
  unfold timesV
  rw [cong_len h, e, e, h]
theorem cong_plan (F : Int) : planV F ps = planV F ps' := by
  unfold planV
  rw [cong_times h, cong_try h, cong_len h]
end
/-- the number in a cell. -/
def gi : Option G → Int
  | some (.one (.int _ a)) => a
  | _ => 0
/-- period and length of a row of cells. -/
def plG (x : List G) : Int × Int := (gi x[1]?, gi x[2]?)
theorem part_of {w : World} {Q : Nat → Prop} {b o : Nat} {x : List G} (hc : cfE KS KN (KS 4) x) (h : rdE w Q b o x) : ∃ p : Part, (∀ j v, p.cells[j]? = some v → w.cell? ⟨b, o + j, none⟩ = some v) ∧ pl p = plG x := by
  obtain ⟨x0, x1, x2, x3, l4, x5, x6, l7, l8, l9, rfl, _⟩ := cfPart hc
  obtain ⟨u0_, q0, d0⟩ := rdE_at (j := 0) (by simp) h
  have d0 : G.rd w Q u0_ (.one (.string x0)) := d0
  simp only [G.rd] at d0
  subst d0
  obtain ⟨u1_, q1, d1⟩ := rdE_at (j := 1) (by simp) h
  have d1 : G.rd w Q u1_ (.one (.int .i64 x1)) := d1
  simp only [G.rd] at d1
  subst d1
  obtain ⟨u2_, q2, d2⟩ := rdE_at (j := 2) (by simp) h
  have d2 : G.rd w Q u2_ (.one (.int .i64 x2)) := d2
  simp only [G.rd] at d2
  subst d2
  obtain ⟨u3_, q3, d3⟩ := rdE_at (j := 3) (by simp) h
  have d3 : G.rd w Q u3_ (.one (.int .i64 x3)) := d3
  simp only [G.rd] at d3
  subst d3
  obtain ⟨u4_, q4, d4⟩ := rdE_at (j := 4) (by simp) h
  have d4 : G.rd w Q u4_ (.row 0 l4) := d4
  obtain ⟨A4, c4, rfl⟩ := rd_slice d4
  obtain ⟨u5_, q5, d5⟩ := rdE_at (j := 5) (by simp) h
  have d5 : G.rd w Q u5_ (.one (.int .i64 x5)) := d5
  simp only [G.rd] at d5
  subst d5
  obtain ⟨u6_, q6, d6⟩ := rdE_at (j := 6) (by simp) h
  have d6 : G.rd w Q u6_ (.one (.int .i64 x6)) := d6
  simp only [G.rd] at d6
  subst d6
  obtain ⟨u7_, q7, d7⟩ := rdE_at (j := 7) (by simp) h
  have d7 : G.rd w Q u7_ (.row 0 l7) := d7
  obtain ⟨A7, c7, rfl⟩ := rd_slice d7
  obtain ⟨u8_, q8, d8⟩ := rdE_at (j := 8) (by simp) h
  have d8 : G.rd w Q u8_ (.row 2 l8) := d8
  obtain ⟨A8, c8, rfl⟩ := rd_slice d8
  obtain ⟨u9_, q9, d9⟩ := rdE_at (j := 9) (by simp) h
  have d9 : G.rd w Q u9_ (.row 3 l9) := d9
  obtain ⟨A9, c9, rfl⟩ := rd_slice d9
  refine ⟨⟨x0, x1, x2, x3, ⟨A4, l4.length, c4⟩, x5, x6, ⟨A7, l7.length, c7⟩, ⟨A8, l8.length, c8⟩, ⟨A9, l9.length, c9⟩⟩, fun j v hv => ?_, rfl⟩
  match j, hv with
  | 0, hv => cases hv; exact q0
  | 1, hv => cases hv; exact q1
  | 2, hv => cases hv; exact q2
  | 3, hv => cases hv; exact q3
  | 4, hv => cases hv; exact q4
  | 5, hv => cases hv; exact q5
  | 6, hv => cases hv; exact q6
  | 7, hv => cases hv; exact q7
  | 8, hv => cases hv; exact q8
  | 9, hv => cases hv; exact q9
  | n + 10, hv => simp [Part.cells] at hv
theorem parts_of {w : World} {Q : Nat → Prop} {b : Nat} : ∀ (l : List (List G)) (o : Nat), cfR KS KN (KS 4) l → rdR w Q b o l → ∃ ps : List Part, ps.map pl = l.map plG ∧ ∀ i (hi : i < ps.length) j v, ps[i].cells[j]? = some v → w.cell? ⟨b, o + i * 10 + j, none⟩ = some v
  | [], _, _, _ => ⟨[], rfl, fun i hi => absurd hi (by simp)⟩
  | e :: r, o, hc, h => by
    simp only [cfR] at hc
    simp only [rdR] at h
    have hl : e.length = 10 := cfE_len hc.1
    obtain ⟨p, hp, he⟩ := part_of hc.1 h.1
    obtain ⟨ps, hps, hcs⟩ := parts_of r (o + e.length) hc.2 h.2
    refine ⟨p :: ps, by simp [he, hps], fun i hi j v hv => ?_⟩
    cases i with
    | zero => simpa using hp j v (by simpa using hv)
    | succ i =>
      have := hcs i (by simpa using hi) j v (by simpa using hv)
      rw [hl] at this
      rw [show o + (i + 1) * 10 + j = o + 10 + i * 10 + j by omega]
      exact this
/-- a module's parts, read as data, are parts. -/
theorem partsW {w : World} {v : Value} {l : List (List G)} (hc : G.cf KS KN (.sl 4) (.row 4 l)) (h : G.rdW w v (.row 4 l)) : ∃ (A : Option Addr) (c : Nat) (ps : List Part), v = .slice A ps.length c ∧ ps.map pl = l.map plG ∧ RdPart w w.heap.size A ps ∧ ps.length * 8 ≤ 140737488355328 := by
  simp only [G.cf] at hc
  obtain ⟨_, hlen, hcR⟩ := hc
  have hlen : l.length ≤ 925904528626 := hlen
  simp only [G.rdW, G.rd] at h
  obtain ⟨A, c, rfl, _, _, hr⟩ := h
  by_cases h0 : 0 < l.length
  · obtain ⟨b, o, rfl, hb, hR⟩ := hr h0
    obtain ⟨ps, hps, hcs⟩ := parts_of l o hcR hR
    have hl : ps.length = l.length := by simpa using congrArg List.length hps
    exact ⟨some ⟨b, o, none⟩, c, ps, by rw [hl], hps, fun _ => ⟨b, o, rfl, hb, hcs⟩, by omega⟩
  · have e : l = [] := List.eq_nil_of_length_eq_zero (by omega)
    subst e
    exact ⟨A, c, [], rfl, rfl, fun h => absurd h (by simp), by simp⟩
set_option maxRecDepth 100000 in
/-- a module as an argument: its parts as data. -/
theorem open_moduleG {H : Type} {enc : TypeId × Value → H} {W : World} {r : Reach} {b0 : Nat} {v : Value} {d : DataW H} {p : List MemPlace} (hok : Value.okWide Try.prog W r b0 24 v) (h : DataW.Trod enc Try.prog W 0 (fun _ => true) true 24 v d p)
    (hz : ∀ n ∈ d.weights Try.prog 24, n ≤ reachBytes) {a b c u : Value} (e : v = .agg #[a, b, c, u]) : ∃ l : List (List G), G.cf KS KN (.sl 4) (.row 4 l) ∧ G.rdW W u (.row 4 l) := by
  obtain ⟨f0, f1, f2, f3, hs, ht0, ht1, ht2, ht3⟩ : ∃ f0 f1 f2 f3 : Field, Try.prog.underlying 24 = some (.struct #[f0, f1, f2, f3]) ∧ f0.type = 9 ∧ f1.type = 3 ∧ f2.type = 3 ∧ f3.type = 22 := ⟨_, _, _, _, Try.underlying24, rfl, rfl, rfl, rfl⟩
  have hone : oneCellFields Try.prog #[f0, f1, f2, f3] = true := by
    have e : oneCellFields Try.prog (Try.prog.fieldsOf 24) = true := by kernel_rfl
    have e2 : Try.prog.fieldsOf 24 = #[f0, f1, f2, f3] := by simp [Program.fieldsOf, hs]
    rw [e2] at e; exact e
  obtain ⟨v0, v1, v2, v3, y0, y1, y2, y3, n, hv, hd, hp, g0, g1, g2, g3⟩ := Joins.open_agg4 hs hone (by kernel_rfl) hok h
  rw [ht3] at g3
  subst e
  injection hv with hv
  have e3 : v3 = u := by
    have := congrArg (fun (x : Array Value) => x[3]?) hv
    simpa using this.symm
  subst e3
  subst hd
  obtain ⟨x, hc, hr⟩ := open_g tabK n (.sl 4) v3 y3 (by simp [K.known]) g3 (fun m hm => hz m (by
    simp only [DataW.weights, hs]
    exact DataW.weights_mem_each (j := 3) (t := 22) (d := y3.1) (by simp [ht3]) (by simp) _ hm))
  cases x with
  | one v => exact absurd hc (by simp [G.cf])
  | row t l =>
    have ht : t = 4 := by have := hc; simp only [G.cf] at this; exact this.1
    subst ht
    exact ⟨l, hc, hr⟩
end Go.Proofs.Ytlmbffnmjfbglab
