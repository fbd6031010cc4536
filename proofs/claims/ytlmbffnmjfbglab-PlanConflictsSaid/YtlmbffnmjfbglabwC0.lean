/- The frame of a law's proof: a law that returns true and leaves old memory alone meets its row; arguments opened to lists. -/
import Derived.Test.YtlmbffnmjfbglabwA1
import Derived.Deep.Slices
import Derived.Deep.Fields
import Derived.ChangeSame
import Derived.Lib.SmallJoins
namespace Go.Proofs.Ytlmbffnmjfbglab
open Go.ChangeShapes Go.WideShapes Go.ChangeAt Go.RowKit Go.Deep

section
variable {H : Type} {enc : TypeId × Value → H} {P : Program}
theorem trodAll_stays (hl : laidOutB P = true) {W W' : World} {sp : Nat → Bool} : ∀ (ts : List TypeId) (vs : List Value) (ds : List (DataW H)) (ps : List MemPlace), (∀ t ∈ ts, P.readableRec t = true ∧ t < P.types.size) →
    DataW.TrodAll enc P W 0 (fun _ => true) true ts vs ds ps → (∀ p ∈ ps, W.sameAt W' p) → (∀ p ∈ ps, sp p.block = true) → DataW.TrodAll enc P W' 0 sp true ts vs ds ps
  | [], [], [], _, _, h, _, _ => h
  | t :: ts, v :: vs, d :: ds, ps, hr, h, hs, hsp => by
    obtain ⟨p, q, hp, hq, rfl⟩ := h
    have ht := hr t (by simp)
    exact ⟨p, q, WideElems.Trod_stays hl ht.1 ht.2 hp (fun x hx => hs x (by simp [hx])) (fun x hx => hsp x (by simp [hx])),
      trodAll_stays hl ts vs ds q (fun u hu => hr u (by simp [hu])) hq (fun x hx => hs x (by simp [hx])) (fun x hx => hsp x (by simp [hx])), rfl⟩
  | [], _ :: _, _, _, _, h, _, _ => by cases h
  | [], [], _ :: _, _, _, h, _, _ => by cases h
  | _ :: _, [], _, _, _, h, _, _ => by cases h
  | _ :: _, _ :: _, [], _, _, h, _, _ => by cases h

theorem post_of_below {f : Func} {s : ChangeSpec} {apart fresh handsOn again : Bool} {W W' : World} {args : Array Value} {v : Value} {ds gs : List (DataW H)} {before pa pv : List MemPlace}
    (hW : DataW.Whole enc P f.params.toList s.vars apart W args.toList ds gs before)
    (hres : ∀ (b : Nat) (sp : Nat → Bool) (hd : Bool), DataW.TrodAll enc P W' b sp hd f.resultTypes.toList (v.resultList f.resultTypes.size) (s.fn H (ds ++ gs)).results [])
    (hargs : ∀ sp : Nat → Bool, (∀ p ∈ before, sp p.block = true) → DataW.TrodAll enc P W' 0 sp true f.params.toList args.toList (s.fn H (ds ++ gs)).args pa)
    (hvars : ∀ sp : Nat → Bool, (∀ p ∈ before, sp p.block = true) → DataW.TrodVars enc P W' sp s.vars (s.fn H (ds ++ gs)).vars pv)
    (hps : before = pa ++ pv) (hb : Below W.heap.size W W')
    (hok : ∀ (j : Nat) (t : TypeId) (r : Value), f.resultTypes[j]? = some t → (v.resultList f.resultTypes.size)[j]? = some r → Value.okWide P W' .any 0 t r) :
    s.post enc P f apart fresh handsOn again W args v W' := by
  have hlt : ∀ p ∈ before, p.block < W.heap.size := fun p hp => hW.lt p hp
  have hold : ∀ p ∈ before, (fun b => decide (b < W.heap.size)) p.block = true := fun p hp => by simpa using hlt p hp
  refine ⟨ds, gs, before, [], pa, pv, hW, hres _ _ _, hargs _ hold, hvars _ hold, World.keptBut_mono (fun p hp => ⟨hp, ?_⟩) (hb.frame (· ∈ before)), fun _ => ?_⟩
  · rw [hps, List.mem_append] at hp
    exact Or.inr hp
  · obtain ⟨_, _, _, _, _, hz, hn⟩ := hW
    refine ⟨hok, _, _, ([] ++ pa) ++ pv, ⟨[] ++ pa, pv, trodAll_append (hargs _ (fun _ _ => rfl)) (hres _ _ _), hvars _ (fun _ _ => rfl), rfl, ?_, ?_⟩, ?_⟩
    · intro b off hp
      have hin : MemPlace.cell b off ∈ before := by rw [hps]; simpa using hp
      rw [hb.frozen (hlt _ hin)]
      exact hz b off hin
    · intro ha
      have := hn ha
      rw [hps] at this
      simpa using this
    · intro p hp _
      rw [hps]
      simpa using hp

/-- A law (one bool back, true; no named variable) that leaves old memory alone meets its row's post. -/
theorem law_post {f : Func} {s : ChangeSpec} {apart fresh handsOn again : Bool} {W W' : World} {args : Array Value} {ds gs : List (DataW H)} {before : List MemPlace} {tb : TypeId}
    (hl : laidOutB P = true) (hr : ∀ t ∈ f.params.toList, P.readableRec t = true ∧ t < P.types.size) (hrt : f.resultTypes = #[tb]) (htb : P.underlying tb = some .bool) (hsv : s.vars = [])
    (hW : DataW.Whole enc P f.params.toList s.vars apart W args.toList ds gs before)
    (hs : (s.fn H ds).results = [.lit (.bool true)] ∧ (s.fn H ds).args = ds ∧ (s.fn H ds).vars = []) (hb : Below W.heap.size W W') :
    s.post enc P f apart fresh handsOn again W args (.bool true) W' := by
  have hW' := hW
  obtain ⟨p, q, hA, hV, rfl, _, _⟩ := hW'
  rw [hsv] at hV
  obtain ⟨rfl, rfl⟩ := trodVars_none hV
  have hlt : ∀ x ∈ p ++ [], x.block < W.heap.size := fun x hx => hW.lt x hx
  refine post_of_below (pa := p) (pv := []) hW (fun b sp hd => ?_) (fun sp hsp => ?_) (fun sp _ => ?_) rfl hb ?_
  · rw [List.append_nil, hs.1, hrt]
    exact trodAll_mk1 (shut_bool htb true)
  · rw [List.append_nil, hs.2.1]
    exact trodAll_stays hl _ _ _ _ hr hA (fun x hx => hb.same (hlt x (by simp [hx]))) (fun x hx => hsp x (by simp [hx]))
  · rw [List.append_nil, hs.2.2, hsv]
    rfl
  · exact ok_one hrt rfl (okWide_bool_mk htb true)

variable {w : World} {base : Nat} {spare : Nat → Bool} {held : Bool}
theorem open_slice_fields {t e : TypeId} {fs : Array Field} {fuel : Nat} {cs : List Value} {x : DataW H × List MemPlace} (ht : P.underlying t = some (.slice e)) (he : P.underlying e = some (.struct fs))
    (hone : oneCellFields P fs = true) (hC : P.cellsOf e = fs.size) (h : DataW.trod enc P w base spare held fuel t cs = some x) :
    (cs = [.slice none 0 0] ∧ x = (.nil, [])) ∨
    ∃ (a : Addr) (len cap m : Nat) (D : Nat → DataW H) (Pl : Nat → List MemPlace), cs = [.slice (some a) len cap] ∧ base ≤ a.block ∧ len ≤ cap ∧ cap ≤ maxLen ∧ m = (if spare a.block then cap else len) ∧
      x = (.slice ((List.range len).map D) ((List.range (m - len)).map fun j => D (len + j)), MemPlace.row a (m * fs.size) ++ (List.range m).flatMap Pl) ∧
      ∀ i, i < m → ∃ (ys : List (DataW H × List MemPlace)) (n : Nat), D i = .agg (ys.map (·.1)) ∧ Pl i = ys.flatMap (·.2) ∧ ys.length = fs.size ∧
        ∀ (j : Nat) (f : Field), fs[j]? = some f → ∃ (v : Value) (y : DataW H × List MemPlace), w.cell? (a.add (i * fs.size + j)) = some v ∧ ys[j]? = some y ∧ DataW.trod enc P w base spare held n f.type [v] = some y := by
  rcases open_slice ht h with h0 | ⟨a, len, cap, m, n, D, Pl, hcs, hb, hl, hm, hmm, hx, hi⟩
  · exact .inl h0
  · refine .inr ⟨a, len, cap, m, D, Pl, hcs, hb, hl, hm, hmm, by rw [hC] at hx; exact hx, fun i him => ?_⟩
    obtain ⟨cs', hc, ht'⟩ := hi i him
    rw [hC] at hc
    obtain ⟨ys, n', hn', hy, hlen, hyl, hf⟩ := DataW.trod_struct he ht'
    obtain ⟨_, hcl, hat⟩ := World.cells?_some hc
    simp only [Prod.mk.injEq] at hy
    refine ⟨ys, n', hy.1, hy.2, hyl, fun j f hj => ?_⟩
    obtain ⟨ho, hk⟩ := hone_of hone j f hj
    have hjl : j < fs.size := (Array.getElem?_eq_some_iff.1 hj).1
    have hcell := hat j hjl
    have hv : cs'[j]? = some (cs'[j]'(by omega)) := List.getElem?_eq_getElem (by omega)
    have h1 := hf j f hj
    rw [ho, hk] at h1
    have hone' : (cs'.drop j).take 1 = [cs'[j]'(by omega)] := by
      rw [List.drop_eq_getElem_cons (by omega)]
      rfl
    rw [hone'] at h1
    have hys : ys[j]? = some (ys[j]'(by omega)) := List.getElem?_eq_getElem (by omega)
    refine ⟨_, _, ?_, hys, h1.trans hys⟩
    rw [← Go.Deep.add_add, hcell, hv]

/-- A list out of a choice at each place. -/
theorem list_of {α : Type} (n : Nat) (p : Nat → α → Prop) (h : ∀ i, i < n → ∃ x, p i x) : ∃ l : List α, l.length = n ∧ ∀ i (hi : i < l.length), p i l[i] := by
  induction n with
  | zero => exact ⟨[], rfl, fun i hi => by simp at hi⟩
  | succ n ih =>
    obtain ⟨l, hl, hp⟩ := ih fun i hi => h i (by omega)
    obtain ⟨x, hx⟩ := h n (by omega)
    refine ⟨l ++ [x], by simp [hl], fun i hi => ?_⟩
    by_cases e : i < l.length
    · rw [List.getElem_append_left e]; exact hp i e
    · have : i = l.length := by simp at hi; omega
      subst this
      simp; rw [hl]; exact hx

theorem addr_of_cell {a : Addr} {v : Value} (h : w.cell? a = some v) : a = ⟨a.block, a.off, none⟩ := by
  obtain ⟨b, o, s⟩ := a
  cases s with
  | none => rfl
  | some s =>
    unfold World.cell? at h
    split at h <;> simp at h
theorem add_none (b o j : Nat) : (⟨b, o, none⟩ : Addr).add j = ⟨b, o + j, none⟩ := by unfold Addr.add; split <;> simp_all
end

theorem own : ownKnob Try.prog.godebug = none := by kernel_rfl
theorem laid : laidOutB Try.prog = true := by kernel_rfl

def IntOk (x : Int) : Prop := -9223372036854775808 ≤ x ∧ x ≤ 9223372036854775807
theorem intOk_of {x : Int} (h : (Lit.int .i64 x).wf = true) : IntOk x := by
  simp [Lit.wf, IntKind.min, IntKind.max, IntKind.signed, IntKind.bits] at h
  exact h

set_option maxRecDepth 100000 in
/-- An argument of type []api.Window. -/
theorem open_wins {H : Type} {enc : TypeId × Value → H} {W : World} {r : Reach} {b0 : Nat} {v : Value} {d : DataW H} {p : List MemPlace} (hok : Value.okWide Try.prog W r b0 84 v) (h : DataW.Trod enc Try.prog W 0 (fun _ => true) true 84 v d p) :
    ∃ (A : Option Addr) (c : Nat) (l : List Win), v = .slice A l.length c ∧ l.length ≤ c ∧ c ≤ maxLen ∧ RdG Win.tri W W.heap.size A l ∧ ∀ x ∈ l, IntOk x.part ∧ IntOk x.start ∧ IntOk x.len := by
  obtain ⟨a, len, cap, rfl⟩ := okWide_slice Try.underlying84 hok
  obtain ⟨fuel, hf⟩ := h
  have hu : Try.prog.underlying 107 = some (.struct (Try.prog.fieldsOf 107)) := by kernel_rfl
  rcases open_slice_fields Try.underlying84 hu (by kernel_rfl) (by kernel_rfl) hf with ⟨hcs, _⟩ | ⟨a', len', cap', m, D, Pl, hcs, _, hl, hm, hmm, _, hi⟩
  · simp [Value.cells] at hcs
    obtain ⟨rfl, rfl, rfl⟩ := hcs
    exact ⟨none, 0, [], rfl, Nat.le_refl _, by simp [maxLen], fun h => absurd h (by simp), fun x hx => by simp at hx⟩
  · simp [Value.cells] at hcs
    obtain ⟨rfl, rfl, rfl⟩ := hcs
    simp at hmm
    subst hmm
    have h3 : (Try.prog.fieldsOf 107).size = 3 := by kernel_rfl
    have hex : ∀ i, i < len → ∃ x : Win, (W.cell? (a'.add (i * 3 + 0)) = some (.int .i64 x.part) ∧ W.cell? (a'.add (i * 3 + 1)) = some (.int .i64 x.start) ∧ W.cell? (a'.add (i * 3 + 2)) = some (.int .i64 x.len)) ∧ IntOk x.part ∧ IntOk x.start ∧ IntOk x.len := by
      intro i hil
      obtain ⟨ys, n, _, _, _, hf⟩ := hi i (by omega)
      rw [h3] at hf
      have f0 : (Try.prog.fieldsOf 107)[0]?.map (·.type) = some 3 := by kernel_rfl
      have f1 : (Try.prog.fieldsOf 107)[1]?.map (·.type) = some 3 := by kernel_rfl
      have f2 : (Try.prog.fieldsOf 107)[2]?.map (·.type) = some 3 := by kernel_rfl
      have get : ∀ j, (Try.prog.fieldsOf 107)[j]?.map (·.type) = some 3 → ∃ x : Int, W.cell? (a'.add (i * 3 + j)) = some (.int .i64 x) ∧ IntOk x := by
        intro j hj
        obtain ⟨f, hf', hft⟩ := Option.map_eq_some_iff.1 hj
        obtain ⟨v, y, hc, _, ht⟩ := hf j f hf'
        rw [hft] at ht
        obtain ⟨x, hx, _, hw⟩ := DataW.trod_int Try.underlying3 ht
        injection hx with hx
        subst hx
        exact ⟨x, hc, intOk_of hw⟩
      obtain ⟨x0, c0, k0⟩ := get 0 f0
      obtain ⟨x1, c1, k1⟩ := get 1 f1
      obtain ⟨x2, c2, k2⟩ := get 2 f2
      exact ⟨⟨x0, x1, x2⟩, ⟨c0, c1, c2⟩, k0, k1, k2⟩
    obtain ⟨l, hll, hlp⟩ := list_of len _ hex
    subst hll
    refine ⟨some a', _, l, rfl, hl, hm, fun hn => ?_, fun x hx => ?_⟩
    · have ha := addr_of_cell (hlp 0 hn).1.1
      have hblk := World.block_lt_of_cell? W _ (hlp 0 hn).1.1
      have ea : a' = ⟨a'.block, a'.off, none⟩ := by
        have : a'.add (0 * 3 + 0) = a' := by simp [Addr.add]
        rw [this] at ha; exact ha
      refine ⟨a'.block, a'.off, by rw [← ea], ?_, fun i hil => ?_⟩
      · have : a'.add (0 * 3 + 0) = a' := by simp [Addr.add]
        rw [this] at hblk; exact hblk
      · obtain ⟨⟨c0, c1, c2⟩, _⟩ := hlp i hil
        rw [ea, add_none] at c0 c1 c2
        exact ⟨c0, c1, c2⟩
    · obtain ⟨i, hil, rfl⟩ := List.getElem_of_mem hx
      exact (hlp i hil).2

def PartOk (x : Part) : Prop := IntOk x.period ∧ IntOk x.length ∧ IntOk x.mem ∧ IntOk x.events ∧ IntOk x.boards
section
variable {H : Type} {enc : TypeId × Value → H} {P : Program} {w : World} {base : Nat} {spare : Nat → Bool} {held : Bool}
theorem slv_of {t e : TypeId} {fuel : Nat} {v : Value} {x : DataW H × List MemPlace} (ht : P.underlying t = some (.slice e)) (h : DataW.trod enc P w base spare held fuel t [v] = some x) : ∃ s : SlV, v = .slice s.a s.n s.c := by
  rcases DataW.trod_slice ht h with ⟨hcs, _⟩ | ⟨a, len, cap, _, _, _, _, hcs, _⟩
  · injection hcs with hcs; exact ⟨⟨none, 0, 0⟩, hcs⟩
  · injection hcs with hcs; exact ⟨⟨some a, len, cap⟩, hcs⟩
end

set_option maxRecDepth 100000 in
set_option maxHeartbeats 1000000 in
theorem open_parts {H : Type} {enc : TypeId × Value → H} {W : World} {fuel : Nat} {v : Value} {y : DataW H × List MemPlace} (hf : DataW.trod enc Try.prog W 0 (fun _ => true) true fuel 22 [v] = some y) :
    ∃ (A : Option Addr) (c : Nat) (l : List Part), v = .slice A l.length c ∧ l.length ≤ c ∧ c ≤ maxLen ∧ RdPart W W.heap.size A l ∧ ∀ x ∈ l, PartOk x := by
  have hu : Try.prog.underlying 56 = some (.struct (Try.prog.fieldsOf 56)) := by kernel_rfl
  rcases open_slice_fields Try.underlying22 hu (by kernel_rfl) (by kernel_rfl) hf with ⟨hcs, _⟩ | ⟨a', len, cap, m, D, Pl, hcs, _, hl, hm, hmm, _, hi⟩
  · injection hcs with hcs
    subst hcs
    exact ⟨none, 0, [], rfl, Nat.le_refl _, by simp [maxLen], fun h => absurd h (by simp), fun x hx => by simp at hx⟩
  · injection hcs with hcs
    subst hcs
    simp at hmm
    subst hmm
    have h3 : (Try.prog.fieldsOf 56).size = 10 := by kernel_rfl
    have hex : ∀ i, i < len → ∃ x : Part, (∀ j v, x.cells[j]? = some v → W.cell? (a'.add (i * 10 + j)) = some v) ∧ PartOk x := by
      intro i hil
      obtain ⟨ys, n, _, _, _, hf⟩ := hi i (by omega)
      rw [h3] at hf
      have geti : ∀ j, (Try.prog.fieldsOf 56)[j]?.map (·.type) = some 3 → ∃ x : Int, W.cell? (a'.add (i * 10 + j)) = some (.int .i64 x) ∧ IntOk x := by
        intro j hj
        obtain ⟨f, hf', hft⟩ := Option.map_eq_some_iff.1 hj
        obtain ⟨v, y, hc, _, ht⟩ := hf j f hf'
        rw [hft] at ht
        obtain ⟨x, hx, _, hw⟩ := DataW.trod_int Try.underlying3 ht
        injection hx with hx
        subst hx
        exact ⟨x, hc, intOk_of hw⟩
      have gets : ∀ j t e, (Try.prog.fieldsOf 56)[j]?.map (·.type) = some t → Try.prog.underlying t = some (.slice e) → ∃ s : SlV, W.cell? (a'.add (i * 10 + j)) = some (.slice s.a s.n s.c) := by
        intro j t e hj hte
        obtain ⟨f, hf', hft⟩ := Option.map_eq_some_iff.1 hj
        obtain ⟨v, y, hc, _, ht⟩ := hf j f hf'
        rw [hft] at ht
        obtain ⟨s, rfl⟩ := slv_of hte ht
        exact ⟨s, hc⟩
      have getn : ∃ s : ByteArray, W.cell? (a'.add (i * 10 + 0)) = some (.string s) := by
        obtain ⟨f, hf', hft⟩ := Option.map_eq_some_iff.1 (show (Try.prog.fieldsOf 56)[0]?.map (·.type) = some 9 by kernel_rfl)
        obtain ⟨v, y, hc, _, ht⟩ := hf 0 f hf'
        rw [hft] at ht
        obtain ⟨x, hx, _, _⟩ := DataW.trod_string Try.underlying9 ht
        injection hx with hx
        subst hx
        exact ⟨x, hc⟩
      obtain ⟨x0, c0⟩ := getn
      obtain ⟨x1, c1, k1⟩ := geti 1 (by kernel_rfl)
      obtain ⟨x2, c2, k2⟩ := geti 2 (by kernel_rfl)
      obtain ⟨x3, c3, k3⟩ := geti 3 (by kernel_rfl)
      obtain ⟨x4, c4⟩ := gets 4 28 3 (by kernel_rfl) Try.underlying28
      obtain ⟨x5, c5, k5⟩ := geti 5 (by kernel_rfl)
      obtain ⟨x6, c6, k6⟩ := geti 6 (by kernel_rfl)
      obtain ⟨x7, c7⟩ := gets 7 28 3 (by kernel_rfl) Try.underlying28
      obtain ⟨x8, c8⟩ := gets 8 53 128 (by kernel_rfl) Try.underlying53
      obtain ⟨x9, c9⟩ := gets 9 54 132 (by kernel_rfl) Try.underlying54
      refine ⟨⟨x0, x1, x2, x3, x4, x5, x6, x7, x8, x9⟩, fun j v hv => ?_, k1, k2, k3, k5, k6⟩
      match j with
      | 0 => injection hv with hv; subst hv; exact c0
      | 1 => injection hv with hv; subst hv; exact c1
      | 2 => injection hv with hv; subst hv; exact c2
      | 3 => injection hv with hv; subst hv; exact c3
      | 4 => injection hv with hv; subst hv; exact c4
      | 5 => injection hv with hv; subst hv; exact c5
      | 6 => injection hv with hv; subst hv; exact c6
      | 7 => injection hv with hv; subst hv; exact c7
      | 8 => injection hv with hv; subst hv; exact c8
      | 9 => injection hv with hv; subst hv; exact c9
      | j + 10 => simp [Part.cells] at hv
    obtain ⟨l, hll, hlp⟩ := list_of len _ hex
    subst hll
    refine ⟨some a', _, l, rfl, hl, hm, fun hn => ?_, fun x hx => ?_⟩
    · have hc0 := (hlp 0 hn).1 0 _ rfl
      have e0 : a'.add (0 * 10 + 0) = a' := by simp [Addr.add]
      rw [e0] at hc0
      have ea := addr_of_cell hc0
      refine ⟨a'.block, a'.off, by rw [← ea], World.block_lt_of_cell? W _ hc0, fun i hil j v hv => ?_⟩
      have h1 := (hlp i hil).1 j v hv
      rw [ea, add_none] at h1
      rw [Nat.add_assoc]
      exact h1
    · obtain ⟨i, hil, rfl⟩ := List.getElem_of_mem hx
      exact (hlp i hil).2

set_option maxRecDepth 100000 in
theorem open_module {H : Type} {enc : TypeId × Value → H} {W : World} {r : Reach} {b0 : Nat} {v : Value} {d : DataW H} {p : List MemPlace} (hok : Value.okWide Try.prog W r b0 24 v) (h : DataW.Trod enc Try.prog W 0 (fun _ => true) true 24 v d p) :
    ∃ (name : ByteArray) (mem frame : Int) (A : Option Addr) (c : Nat) (l : List Part), v = .agg #[.string name, .int .i64 mem, .int .i64 frame, .slice A l.length c] ∧ IntOk mem ∧ IntOk frame ∧ l.length ≤ c ∧ c ≤ maxLen ∧ RdPart W W.heap.size A l ∧ ∀ x ∈ l, PartOk x := by
  obtain ⟨f0, f1, f2, f3, hs, ht0, ht1, ht2, ht3⟩ : ∃ f0 f1 f2 f3 : Field, Try.prog.underlying 24 = some (.struct #[f0, f1, f2, f3]) ∧ f0.type = 9 ∧ f1.type = 3 ∧ f2.type = 3 ∧ f3.type = 22 := ⟨_, _, _, _, Try.underlying24, rfl, rfl, rfl, rfl⟩
  have hone : oneCellFields Try.prog #[f0, f1, f2, f3] = true := by
    have e : oneCellFields Try.prog (Try.prog.fieldsOf 24) = true := by kernel_rfl
    have e2 : Try.prog.fieldsOf 24 = #[f0, f1, f2, f3] := by simp [Program.fieldsOf, hs]
    rw [e2] at e; exact e
  obtain ⟨v0, v1, v2, v3, y0, y1, y2, y3, n, rfl, _, _, g0, g1, g2, g3⟩ := Joins.open_agg4 hs hone (by kernel_rfl) hok h
  rw [ht0] at g0
  rw [ht1] at g1
  rw [ht2] at g2
  rw [ht3] at g3
  obtain ⟨name, e0, _, _⟩ := DataW.trod_string Try.underlying9 g0
  obtain ⟨mem, e1, _, k1⟩ := DataW.trod_int Try.underlying3 g1
  obtain ⟨frame, e2, _, k2⟩ := DataW.trod_int Try.underlying3 g2
  obtain ⟨A, c, l, rfl, hlc, hcm, hR, hP⟩ := open_parts g3
  injection e0 with e0
  injection e1 with e1
  injection e2 with e2
  subst e0 e1 e2
  exact ⟨name, mem, frame, A, c, l, rfl, intOk_of k1, intOk_of k2, hlc, hcm, hR, hP⟩


set_option maxRecDepth 100000 in
theorem open_slot {H : Type} {enc : TypeId × Value → H} {W : World} {r : Reach} {b0 : Nat} {v : Value} {d : DataW H} {p : List MemPlace} (hok : Value.okWide Try.prog W r b0 46 v) (h : DataW.Trod enc Try.prog W 0 (fun _ => true) true 46 v d p) :
    ∃ x : Slot, v = .agg #[.int .i64 x.off, .int .i64 x.per, .int .i64 x.len] ∧ IntOk x.off ∧ IntOk x.per ∧ IntOk x.len := by
  obtain ⟨f0, f1, f2, hs, ht0, ht1, ht2⟩ : ∃ f0 f1 f2 : Field, Try.prog.underlying 46 = some (.struct #[f0, f1, f2]) ∧ f0.type = 3 ∧ f1.type = 3 ∧ f2.type = 3 := ⟨_, _, _, Try.underlying46, rfl, rfl, rfl⟩
  have hone : oneCellFields Try.prog #[f0, f1, f2] = true := by
    have e : oneCellFields Try.prog (Try.prog.fieldsOf 46) = true := by kernel_rfl
    have e2 : Try.prog.fieldsOf 46 = #[f0, f1, f2] := by simp [Program.fieldsOf, hs]
    rw [e2] at e; exact e
  obtain ⟨v0, v1, v2, y0, y1, y2, n, rfl, _, _, g0, g1, g2⟩ := Joins.open_agg3 hs hone (by kernel_rfl) hok h
  rw [ht0] at g0
  rw [ht1] at g1
  rw [ht2] at g2
  obtain ⟨a, e0, _, k0⟩ := DataW.trod_int Try.underlying3 g0
  obtain ⟨b, e1, _, k1⟩ := DataW.trod_int Try.underlying3 g1
  obtain ⟨c, e2, _, k2⟩ := DataW.trod_int Try.underlying3 g2
  injection e0 with e0
  injection e1 with e1
  injection e2 with e2
  subst e0 e1 e2
  exact ⟨⟨a, b, c⟩, rfl, intOk_of k0, intOk_of k1, intOk_of k2⟩

set_option maxRecDepth 100000 in
theorem open_ints1 {H : Type} {enc : TypeId × Value → H} {W : World} {r : Reach} {b0 : Nat} {v : Value} {d : DataW H} {p : List MemPlace} (hok : Value.okWide Try.prog W r b0 28 v) (h : DataW.Trod enc Try.prog W 0 (fun _ => true) true 28 v d p) :
    ∃ (A : Option Addr) (c : Nat) (l : List Int), v = .slice A l.length c ∧ l.length ≤ c ∧ c ≤ maxLen ∧ RdInt W W.heap.size A l ∧ ∀ x ∈ l, IntOk x := by
  obtain ⟨a, len, cap, rfl⟩ := okWide_slice Try.underlying28 hok
  obtain ⟨fuel, hf⟩ := h
  rcases open_ints Try.underlying28 Try.underlying3 (by kernel_rfl) hf with ⟨hcs, _⟩ | ⟨a', len', cap', zs, hcs, _, hl, hm, hz, _, hc, hw⟩
  · simp [Value.cells] at hcs
    obtain ⟨rfl, rfl, rfl⟩ := hcs
    exact ⟨none, 0, [], rfl, Nat.le_refl _, by simp [maxLen], fun h => absurd h (by simp), fun x hx => by simp at hx⟩
  · simp [Value.cells] at hcs
    obtain ⟨rfl, rfl, rfl⟩ := hcs
    simp at hz
    have hlen : (zs.take len).length = len := by rw [List.length_take]; omega
    refine ⟨some a', cap, zs.take len, by rw [hlen], by rw [hlen]; exact hl, hm, fun hn => ?_, fun x hx => intOk_of (hw x (List.mem_of_mem_take hx))⟩
    rw [hlen] at hn
    have hc0 := hc 0 (by omega)
    have e0 : a'.add 0 = a' := by simp [Addr.add]
    rw [e0] at hc0
    have ea := addr_of_cell hc0
    refine ⟨a'.block, a'.off, by rw [← ea], World.block_lt_of_cell? W _ hc0, fun i hi => ?_⟩
    rw [hlen] at hi
    have h1 := hc i (by omega)
    rw [ea, add_none] at h1
    rw [List.getElem_take]
    have hzz : zs.getD i 0 = zs[i]'(by omega) := by simp [List.getD, show i < zs.length by omega]
    rw [hzz] at h1
    exact h1
end Go.Proofs.Ytlmbffnmjfbglab
