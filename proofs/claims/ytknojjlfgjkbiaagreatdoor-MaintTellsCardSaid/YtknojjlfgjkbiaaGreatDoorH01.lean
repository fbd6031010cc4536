/- Texts A1 B1, joined. -/
import Derived.RangeFuncNested
import Derived.Deep.Slices
import Derived.Deep.Fields
import Derived.ChangeSame
import Derived.Lib.SmallJoins
import Derived.Maps.RangeWalk
import Derived.Test.YtknojjlfgjkbiaaGreatDoorH00
set_option linter.unusedSimpArgs false
set_option linter.unusedVariables false
set_option linter.unusedSectionVars false
/- Arguments, and data of any types of structs and slices. -/
namespace Go.Proofs.YtknojjlfgjkbiaaGreatDoor
open Go.ChangeShapes Go.WideShapes Go.ChangeAt Go.RowKit Go.Deep
section
variable {H : Type} {enc : TypeId × Value → H} {P : Program}
theorem trodAll_stays (hl : laidOutB P = true) {W W' : World} {sp : Nat → Bool} : ∀ (ts : List TypeId) (vs : List Value) (ds : List (DataW H)) (ps : List MemPlace), (∀ t ∈ ts, P.readableRec t = true ∧ t < P.types.size) →
    DataW.TrodAll enc P W 0 (fun _ => true) true ts vs ds ps → (∀ p ∈ ps, W.sameAt W' p) → (∀ p ∈ ps, sp p.block = true) → DataW.TrodAll enc P W' 0 sp true ts vs ds ps
  | [], [], [], _, _, h, _, _ => h
  | t :: ts, v :: vs, d :: ds, ps, hr, h, hs, hsp => by
    obtain ⟨p, q, hp, hq, rfl⟩ := h
    have ht := hr t (by simp)
    exact ⟨p, q, WideElems.Trod_stays hl ht.1 ht.2 hp (fun x hx => hs x (by simp [hx])) (fun x hx => hsp x (by simp [hx])),
      trodAll_stays hl ts vs ds q (fun u hu => hr u (by simp [hu])) hq (fun x hx => hs x (by simp [hx])) (fun x hx => hsp x (by simp [hx])), rfl⟩
  | [], _ :: _, _, _, _, h, _, _ => by cases h
  | [], [], _ :: _, _, _, h, _, _ => by cases h
  | _ :: _, [], _, _, _, h, _, _ => by cases h
  | _ :: _, _ :: _, [], _, _, h, _, _ => by cases h

theorem post_of_below {f : Func} {s : ChangeSpec} {apart fresh handsOn again : Bool} {W W' : World} {args : Array Value} {v : Value} {ds gs : List (DataW H)} {before pa pv : List MemPlace}
    (hW : DataW.Whole enc P f.params.toList s.vars apart W args.toList ds gs before)
    (hres : ∀ (b : Nat) (sp : Nat → Bool) (hd : Bool), DataW.TrodAll enc P W' b sp hd f.resultTypes.toList (v.resultList f.resultTypes.size) (s.fn H (ds ++ gs)).results [])
    (hargs : ∀ sp : Nat → Bool, (∀ p ∈ before, sp p.block = true) → DataW.TrodAll enc P W' 0 sp true f.params.toList args.toList (s.fn H (ds ++ gs)).args pa)
    (hvars : ∀ sp : Nat → Bool, (∀ p ∈ before, sp p.block = true) → DataW.TrodVars enc P W' sp s.vars (s.fn H (ds ++ gs)).vars pv)
    (hps : before = pa ++ pv) (hb : Below W.heap.size W W')
    (hok : ∀ (j : Nat) (t : TypeId) (r : Value), f.resultTypes[j]? = some t → (v.resultList f.resultTypes.size)[j]? = some r → Value.okWide P W' .any 0 t r) :
    s.post enc P f apart fresh handsOn again W args v W' := by
  have hlt : ∀ p ∈ before, p.block < W.heap.size := fun p hp => hW.lt p hp
  have hold : ∀ p ∈ before, (fun b => decide (b < W.heap.size)) p.block = true := fun p hp => by simpa using hlt p hp
  refine ⟨ds, gs, before, [], pa, pv, hW, hres _ _ _, hargs _ hold, hvars _ hold, World.keptBut_mono (fun p hp => ⟨hp, ?_⟩) (hb.frame (· ∈ before)), fun _ => ?_⟩
  · rw [hps, List.mem_append] at hp
    exact Or.inr hp
  · obtain ⟨_, _, _, _, _, hz, hn⟩ := hW
    refine ⟨hok, _, _, ([] ++ pa) ++ pv, ⟨[] ++ pa, pv, trodAll_append (hargs _ (fun _ _ => rfl)) (hres _ _ _), hvars _ (fun _ _ => rfl), rfl, ?_, ?_⟩, ?_⟩
    · intro b off hp
      have hin : MemPlace.cell b off ∈ before := by rw [hps]; simpa using hp
      rw [hb.frozen (hlt _ hin)]
      exact hz b off hin
    · intro ha
      have := hn ha
      rw [hps] at this
      simpa using this
    · intro p hp _
      rw [hps]
      simpa using hp

/-- A law (one bool back, true; no named variable) that leaves old memory alone meets its row's post. -/
theorem law_post {f : Func} {s : ChangeSpec} {apart fresh handsOn again : Bool} {W W' : World} {args : Array Value} {ds gs : List (DataW H)} {before : List MemPlace} {tb : TypeId}
    (hl : laidOutB P = true) (hr : ∀ t ∈ f.params.toList, P.readableRec t = true ∧ t < P.types.size) (hrt : f.resultTypes = #[tb]) (htb : P.underlying tb = some .bool) (hsv : s.vars = [])
    (hW : DataW.Whole enc P f.params.toList s.vars apart W args.toList ds gs before)
    (hs : (s.fn H ds).results = [.lit (.bool true)] ∧ (s.fn H ds).args = ds ∧ (s.fn H ds).vars = []) (hb : Below W.heap.size W W') :
    s.post enc P f apart fresh handsOn again W args (.bool true) W' := by
  have hW' := hW
  obtain ⟨p, q, hA, hV, rfl, _, _⟩ := hW'
  rw [hsv] at hV
  obtain ⟨rfl, rfl⟩ := trodVars_none hV
  have hlt : ∀ x ∈ p ++ [], x.block < W.heap.size := fun x hx => hW.lt x hx
  refine post_of_below (pa := p) (pv := []) hW (fun b sp hd => ?_) (fun sp hsp => ?_) (fun sp _ => ?_) rfl hb ?_
  · rw [List.append_nil, hs.1, hrt]
    exact trodAll_mk1 (shut_bool htb true)
  · rw [List.append_nil, hs.2.1]
    exact trodAll_stays hl _ _ _ _ hr hA (fun x hx => hb.same (hlt x (by simp [hx]))) (fun x hx => hsp x (by simp [hx]))
  · rw [List.append_nil, hs.2.2, hsv]
    rfl
  · exact ok_one hrt rfl (okWide_bool_mk htb true)

variable {w : World} {base : Nat} {spare : Nat → Bool} {held : Bool}
theorem open_slice_fields {t e : TypeId} {fs : Array Field} {fuel : Nat} {cs : List Value} {x : DataW H × List MemPlace} (ht : P.underlying t = some (.slice e)) (he : P.underlying e = some (.struct fs))
    (hone : oneCellFields P fs = true) (hC : P.cellsOf e = fs.size) (h : DataW.trod enc P w base spare held fuel t cs = some x) :
    (cs = [.slice none 0 0] ∧ x = (.nil, [])) ∨
    ∃ (a : Addr) (len cap m : Nat) (D : Nat → DataW H) (Pl : Nat → List MemPlace), cs = [.slice (some a) len cap] ∧ base ≤ a.block ∧ len ≤ cap ∧ cap ≤ maxLen ∧ m = (if spare a.block then cap else len) ∧
      x = (.slice ((List.range len).map D) ((List.range (m - len)).map fun j => D (len + j)), MemPlace.row a (m * fs.size) ++ (List.range m).flatMap Pl) ∧
      ∀ i, i < m → ∃ (ys : List (DataW H × List MemPlace)) (n : Nat), D i = .agg (ys.map (·.1)) ∧ Pl i = ys.flatMap (·.2) ∧ ys.length = fs.size ∧
        ∀ (j : Nat) (f : Field), fs[j]? = some f → ∃ (v : Value) (y : DataW H × List MemPlace), w.cell? (a.add (i * fs.size + j)) = some v ∧ ys[j]? = some y ∧ DataW.trod enc P w base spare held n f.type [v] = some y := by
  rcases open_slice ht h with h0 | ⟨a, len, cap, m, n, D, Pl, hcs, hb, hl, hm, hmm, hx, hi⟩
  · exact .inl h0
  · refine .inr ⟨a, len, cap, m, D, Pl, hcs, hb, hl, hm, hmm, by rw [hC] at hx; exact hx, fun i him => ?_⟩
    obtain ⟨cs', hc, ht'⟩ := hi i him
    rw [hC] at hc
    obtain ⟨ys, n', hn', hy, hlen, hyl, hf⟩ := DataW.trod_struct he ht'
    obtain ⟨_, hcl, hat⟩ := World.cells?_some hc
    simp only [Prod.mk.injEq] at hy
    refine ⟨ys, n', hy.1, hy.2, hyl, fun j f hj => ?_⟩
    obtain ⟨ho, hk⟩ := hone_of hone j f hj
    have hjl : j < fs.size := (Array.getElem?_eq_some_iff.1 hj).1
    have hcell := hat j hjl
    have hv : cs'[j]? = some (cs'[j]'(by omega)) := List.getElem?_eq_getElem (by omega)
    have h1 := hf j f hj
    rw [ho, hk] at h1
    have hone' : (cs'.drop j).take 1 = [cs'[j]'(by omega)] := by
      rw [List.drop_eq_getElem_cons (by omega)]
      rfl
    rw [hone'] at h1
    have hys : ys[j]? = some (ys[j]'(by omega)) := List.getElem?_eq_getElem (by omega)
    refine ⟨_, _, ?_, hys, h1.trans hys⟩
    rw [← Go.Deep.add_add, hcell, hv]

/-- A list out of a choice at each place. -/
theorem list_of {α : Type} (n : Nat) (p : Nat → α → Prop) (h : ∀ i, i < n → ∃ x, p i x) : ∃ l : List α, l.length = n ∧ ∀ i (hi : i < l.length), p i l[i] := by
  induction n with
  | zero => exact ⟨[], rfl, fun i hi => by simp at hi⟩
  | succ n ih =>
    obtain ⟨l, hl, hp⟩ := ih fun i hi => h i (by omega)
    obtain ⟨x, hx⟩ := h n (by omega)
    refine ⟨l ++ [x], by simp [hl], fun i hi => ?_⟩
    by_cases e : i < l.length
    · rw [List.getElem_append_left e]; exact hp i e
    · have : i = l.length := by simp at hi; omega
      subst this
      simp; rw [hl]; exact hx

theorem addr_of_cell {a : Addr} {v : Value} (h : w.cell? a = some v) : a = ⟨a.block, a.off, none⟩ := by
  obtain ⟨b, o, s⟩ := a
  cases s with
  | none => rfl
  | some s =>
    unfold World.cell? at h
    split at h <;> simp at h
theorem add_none (b o j : Nat) : (⟨b, o, none⟩ : Addr).add j = ⟨b, o + j, none⟩ := by unfold Addr.add; split <;> simp_all
end

theorem own : ownKnob Tryz.prog.godebug = none := by kernel_rfl
theorem laid : laidOutB Tryz.prog = true := by kernel_rfl
section
variable {H : Type} {enc : TypeId × Value → H} {P : Program} {w : World} {base : Nat} {spare : Nat → Bool} {held : Bool}
theorem weightsAll_mem {e : TypeId} : ∀ {el : List (DataW H)} {d : DataW H} {n : Nat}, d ∈ el → n ∈ d.weights P e → n ∈ DataW.weightsAll P e el
  | [], _, _, h, _ => by simp at h
  | x :: r, d, n, h, hn => by
    simp only [DataW.weightsAll, List.mem_append]
    rcases List.mem_cons.1 h with rfl | h
    · exact .inl hn
    · exact .inr (weightsAll_mem h hn)
/-- a slice of structs of one-cell fields, with less fuel for its fields, and its elements' data. -/
theorem slice_less2 {t e : TypeId} {fs : Array Field} {fuel : Nat} {cs : List Value} {x : DataW H × List MemPlace} (ht : P.underlying t = some (.slice e)) (he : P.underlying e = some (.struct fs))
    (hone : oneCellFields P fs = true) (hC : P.cellsOf e = fs.size) (h : DataW.trod enc P w base spare held fuel t cs = some x) :
    cs = [.slice none 0 0] ∨
    ∃ (a : Addr) (len cap n : Nat) (el re : List (DataW H)), cs = [.slice (some a) len cap] ∧ len ≤ cap ∧ cap ≤ maxLen ∧ n < fuel ∧ x.1 = .slice el re ∧ el.length = len ∧
      ∀ i (hi : i < el.length), ∃ (ys : List (DataW H × List MemPlace)), el[i] = .agg (ys.map (·.1)) ∧ ∀ (j : Nat) (f : Field), fs[j]? = some f → ∃ (v : Value) (y : DataW H × List MemPlace), w.cell? (a.add (i * fs.size + j)) = some v ∧ ys[j]? = some y ∧ DataW.trod enc P w base spare held n f.type [v] = some y := by
  rcases DataW.trod_slice ht h with h0 | ⟨a, len, cap, elems, rest, n, hn, rfl, hx, _, hl, hm, hlen, hel, _, _⟩
  · exact .inl h0.1
  · refine .inr ⟨a, len, cap, n - 1, elems.map (·.1), rest.map (·.1), rfl, hl, hm, by omega, by rw [hx], by simpa using hlen, fun i hi => ?_⟩
    have hil : i < len := by rw [← hlen]; simpa using hi
    have key := hel i hil
    rw [List.getElem?_eq_getElem (by omega)] at key
    obtain ⟨cs', hc, ht'⟩ := Option.bind_eq_some_iff.1 key
    rw [hC] at hc
    obtain ⟨ys, n', hn', hy, _, hyl, hf⟩ := DataW.trod_struct he ht'
    obtain rfl : n' = n - 1 := by omega
    obtain ⟨_, hcl, hat⟩ := World.cells?_some hc
    refine ⟨ys, by rw [List.getElem_map, hy], fun j f hj => ?_⟩
    obtain ⟨ho, hk⟩ := hone_of hone j f hj
    have hjl : j < fs.size := (Array.getElem?_eq_some_iff.1 hj).1
    have hcell := hat j hjl
    have hv : cs'[j]? = some (cs'[j]'(by omega)) := List.getElem?_eq_getElem (by omega)
    have h1 := hf j f hj
    rw [ho, hk] at h1
    have hone' : (cs'.drop j).take 1 = [cs'[j]'(by omega)] := by
      rw [List.drop_eq_getElem_cons (by omega)]
      rfl
    rw [hone'] at h1
    have hys : ys[j]? = some (ys[j]'(by omega)) := List.getElem?_eq_getElem (by omega)
    refine ⟨_, _, ?_, hys, h1.trans hys⟩
    rw [← Go.Deep.add_add, hcell, hv]
end

/-- a datum in one cell: a value, or a slice (of kind t) whose elements are rows of such data. -/
inductive G where
  | one (v : Value)
  | row (t : Nat) (l : List (List G))
mutual
/-- a value is a datum; the arrays below lie in blocks with Q. -/
def G.rd (w : World) (Q : Nat → Prop) (v : Value) : G → Prop
  | .one u => v = u
  | .row _ l => ∃ A c, v = .slice A l.length c ∧ l.length ≤ c ∧ c ≤ maxLen ∧ (0 < l.length → ∃ b o, A = some ⟨b, o, none⟩ ∧ Q b ∧ rdR w Q b o l)
/-- cells one behind the other. -/
def rdE (w : World) (Q : Nat → Prop) (b o : Nat) : List G → Prop
  | [] => True
  | x :: r => (∃ v, w.cell? ⟨b, o, none⟩ = some v ∧ G.rd w Q v x) ∧ rdE w Q b (o + 1) r
/-- elements one behind the other. -/
def rdR (w : World) (Q : Nat → Prop) (b o : Nat) : List (List G) → Prop
  | [] => True
  | e :: r => rdE w Q b o e ∧ rdR w Q b (o + e.length) r
end
mutual
/-- a datum that is lent: each array below has twelve marks of its kind behind it. -/
def G.ld (mk : Nat → Nat → List Value) (w : World) (Q : Nat → Prop) (v : Value) : G → Prop
  | .one u => v = u
  | .row t l => ∃ g c, v = .slice (some ⟨g, 0, none⟩) l.length c ∧ l.length + 12 ≤ c ∧ c ≤ maxLen ∧ Q g ∧ ldR mk w Q g 0 l ∧ ∀ i j u, i < 12 → (mk t i)[j]? = some u → w.cell? ⟨g, (l.length + i) * (mk t 0).length + j, none⟩ = some u
def ldE (mk : Nat → Nat → List Value) (w : World) (Q : Nat → Prop) (b o : Nat) : List G → Prop
  | [] => True
  | x :: r => (∃ v, w.cell? ⟨b, o, none⟩ = some v ∧ G.ld mk w Q v x) ∧ ldE mk w Q b (o + 1) r
def ldR (mk : Nat → Nat → List Value) (w : World) (Q : Nat → Prop) (b o : Nat) : List (List G) → Prop
  | [] => True
  | e :: r => ldE mk w Q b o e ∧ ldR mk w Q b (o + e.length) r
end
mutual
theorem G.rd.keep {w w' : World} {Q Q' : Nat → Prop} (h : ∀ b, Q b → (∀ o, w'.cell? ⟨b, o, none⟩ = w.cell? ⟨b, o, none⟩) ∧ Q' b) (v : Value) : ∀ x : G, G.rd w Q v x → G.rd w' Q' v x
  | .one u, hx => by simpa only [G.rd] using hx
  | .row t l, hx => by
    simp only [G.rd] at hx ⊢
    obtain ⟨A, c, h1, h2, h3, h4⟩ := hx
    refine ⟨A, c, h1, h2, h3, fun hn => ?_⟩
    obtain ⟨b, o, e, hq, hr⟩ := h4 hn
    exact ⟨b, o, e, (h b hq).2, rdR.keep h b o (h b hq).1 l hr⟩
theorem rdE.keep {w w' : World} {Q Q' : Nat → Prop} (h : ∀ b, Q b → (∀ o, w'.cell? ⟨b, o, none⟩ = w.cell? ⟨b, o, none⟩) ∧ Q' b) (b o : Nat) (ht : ∀ o, w'.cell? ⟨b, o, none⟩ = w.cell? ⟨b, o, none⟩) : ∀ l : List G, rdE w Q b o l → rdE w' Q' b o l
  | [], _ => by simp only [rdE]
  | x :: r, hx => by
    simp only [rdE] at hx ⊢
    obtain ⟨⟨v, h1, h2⟩, h3⟩ := hx
    exact ⟨⟨v, (ht _).trans h1, G.rd.keep h v x h2⟩, rdE.keep h b (o + 1) ht r h3⟩
theorem rdR.keep {w w' : World} {Q Q' : Nat → Prop} (h : ∀ b, Q b → (∀ o, w'.cell? ⟨b, o, none⟩ = w.cell? ⟨b, o, none⟩) ∧ Q' b) (b o : Nat) (ht : ∀ o, w'.cell? ⟨b, o, none⟩ = w.cell? ⟨b, o, none⟩) : ∀ l : List (List G), rdR w Q b o l → rdR w' Q' b o l
  | [], _ => by simp only [rdR]
  | e :: r, hx => by
    simp only [rdR] at hx ⊢
    exact ⟨rdE.keep h b o ht e hx.1, rdR.keep h b (o + e.length) ht r hx.2⟩
end
mutual
theorem G.ld.keep {mk : Nat → Nat → List Value} {w w' : World} {Q Q' : Nat → Prop} (h : ∀ b, Q b → (∀ o, w'.cell? ⟨b, o, none⟩ = w.cell? ⟨b, o, none⟩) ∧ Q' b) (v : Value) : ∀ x : G, G.ld mk w Q v x → G.ld mk w' Q' v x
  | .one u, hx => by simpa only [G.ld] using hx
  | .row t l, hx => by
    simp only [G.ld] at hx ⊢
    obtain ⟨g, c, h1, h2, h3, h4, h5, h6⟩ := hx
    exact ⟨g, c, h1, h2, h3, (h g h4).2, ldR.keep h g 0 (h g h4).1 l h5, fun i j u hi hu => ((h g h4).1 _).trans (h6 i j u hi hu)⟩
theorem ldE.keep {mk : Nat → Nat → List Value} {w w' : World} {Q Q' : Nat → Prop} (h : ∀ b, Q b → (∀ o, w'.cell? ⟨b, o, none⟩ = w.cell? ⟨b, o, none⟩) ∧ Q' b) (b o : Nat) (ht : ∀ o, w'.cell? ⟨b, o, none⟩ = w.cell? ⟨b, o, none⟩) : ∀ l : List G, ldE mk w Q b o l → ldE mk w' Q' b o l
  | [], _ => by simp only [ldE]
  | x :: r, hx => by
    simp only [ldE] at hx ⊢
    obtain ⟨⟨v, h1, h2⟩, h3⟩ := hx
    exact ⟨⟨v, (ht _).trans h1, G.ld.keep h v x h2⟩, ldE.keep h b (o + 1) ht r h3⟩
theorem ldR.keep {mk : Nat → Nat → List Value} {w w' : World} {Q Q' : Nat → Prop} (h : ∀ b, Q b → (∀ o, w'.cell? ⟨b, o, none⟩ = w.cell? ⟨b, o, none⟩) ∧ Q' b) (b o : Nat) (ht : ∀ o, w'.cell? ⟨b, o, none⟩ = w.cell? ⟨b, o, none⟩) : ∀ l : List (List G), ldR mk w Q b o l → ldR mk w' Q' b o l
  | [], _ => by simp only [ldR]
  | e :: r, hx => by
    simp only [ldR] at hx ⊢
    exact ⟨ldE.keep h b o ht e hx.1, ldR.keep h b (o + e.length) ht r hx.2⟩
end
mutual
/-- what is lent reads as the same datum. -/
theorem G.ld.rd {mk : Nat → Nat → List Value} {w : World} {Q : Nat → Prop} (v : Value) : ∀ x : G, G.ld mk w Q v x → G.rd w Q v x
  | .one u, hx => by simpa only [G.ld, G.rd] using hx
  | .row t l, hx => by
    simp only [G.ld] at hx
    simp only [G.rd]
    obtain ⟨g, c, h1, h2, h3, h4, h5, h6⟩ := hx
    exact ⟨_, c, h1, by omega, h3, fun _ => ⟨g, 0, rfl, h4, ldR.rd g 0 l h5⟩⟩
theorem ldE.rd {mk : Nat → Nat → List Value} {w : World} {Q : Nat → Prop} (b o : Nat) : ∀ l : List G, ldE mk w Q b o l → rdE w Q b o l
  | [], _ => by simp only [rdE]
  | x :: r, hx => by
    simp only [ldE] at hx
    simp only [rdE]
    obtain ⟨⟨v, h1, h2⟩, h3⟩ := hx
    exact ⟨⟨v, h1, G.ld.rd v x h2⟩, ldE.rd b (o + 1) r h3⟩
theorem ldR.rd {mk : Nat → Nat → List Value} {w : World} {Q : Nat → Prop} (b o : Nat) : ∀ l : List (List G), ldR mk w Q b o l → rdR w Q b o l
  | [], _ => by simp only [rdR]
  | e :: r, hx => by
    simp only [ldR] at hx
    simp only [rdR]
    exact ⟨ldE.rd b o e hx.1, ldR.rd b (o + e.length) r hx.2⟩
end
/-- kinds of cells. -/
inductive K where
  | int | byte | bool | str
  | sl (t : Nat)
  deriving DecidableEq
mutual
/-- a datum is of a kind, by the kinds S of the elements' cells; no array of kind t has more than N t elements. -/
def G.cf (S : Nat → List K) (N : Nat → Nat) : K → G → Prop
  | .int, .one v => ∃ x : Int, v = .int .i64 x ∧ (Lit.int .i64 x).wf = true
  | .byte, .one v => ∃ x : Int, v = .int .u8 x ∧ (Lit.int .u8 x).wf = true
  | .bool, .one v => ∃ x : Bool, v = .bool x
  | .str, .one v => ∃ x : ByteArray, v = .string x ∧ x.size ≤ maxLen
  | .sl t, .row t' l => t' = t ∧ l.length ≤ N t ∧ cfR S N (S t) l
  | _, _ => False
def cfE (S : Nat → List K) (N : Nat → Nat) : List K → List G → Prop
  | [], [] => True
  | k :: ks, x :: r => G.cf S N k x ∧ cfE S N ks r
  | _, _ => False
def cfR (S : Nat → List K) (N : Nat → Nat) (ks : List K) : List (List G) → Prop
  | [] => True
  | e :: r => cfE S N ks e ∧ cfR S N ks r
end
theorem cfE_len {S : Nat → List K} {N : Nat → Nat} : ∀ {ks : List K} {e : List G}, cfE S N ks e → e.length = ks.length
  | [], [], _ => rfl
  | k :: ks, x :: r, h => by
    simp only [cfE] at h
    simp [cfE_len h.2]
  | [], _ :: _, h => by simp only [cfE] at h
  | _ :: _, [], h => by simp only [cfE] at h
theorem cfR_get {S : Nat → List K} {N : Nat → Nat} {ks : List K} : ∀ {l : List (List G)} {i : Nat} (hi : i < l.length), cfR S N ks l → cfE S N ks l[i]
  | [], _, hi, _ => by simp at hi
  | e :: r, 0, _, h => by simp only [cfR] at h; exact h.1
  | e :: r, i + 1, hi, h => by simp only [cfR] at h; exact cfR_get (l := r) (by simpa using hi) h.2
theorem rdR_get {w : World} {Q : Nat → Prop} {b n : Nat} : ∀ {l : List (List G)} {o i : Nat} (hi : i < l.length), (∀ j (hj : j < l.length), l[j].length = n) → rdR w Q b o l → rdE w Q b (o + i * n) l[i]
  | [], _, _, hi, _, _ => by simp at hi
  | e :: r, o, 0, _, _, h => by simp only [rdR] at h; simpa using h.1
  | e :: r, o, i + 1, hi, hn, h => by
    simp only [rdR] at h
    have h0 : e.length = n := hn 0 (by simp)
    have := rdR_get (l := r) (o := o + e.length) (i := i) (by simpa using hi) (fun j hj => hn (j + 1) (by simpa using hj)) h.2
    rw [h0, show o + n + i * n = o + (i + 1) * n by rw [Nat.add_mul]; omega] at this
    exact this
theorem ldR_get {mk : Nat → Nat → List Value} {w : World} {Q : Nat → Prop} {b n : Nat} : ∀ {l : List (List G)} {o i : Nat} (hi : i < l.length), (∀ j (hj : j < l.length), l[j].length = n) → ldR mk w Q b o l → ldE mk w Q b (o + i * n) l[i]
  | [], _, _, hi, _, _ => by simp at hi
  | e :: r, o, 0, _, _, h => by simp only [ldR] at h; simpa using h.1
  | e :: r, o, i + 1, hi, hn, h => by
    simp only [ldR] at h
    have h0 : e.length = n := hn 0 (by simp)
    have := ldR_get (l := r) (o := o + e.length) (i := i) (by simpa using hi) (fun j hj => hn (j + 1) (by simpa using hj)) h.2
    rw [h0, show o + n + i * n = o + (i + 1) * n by rw [Nat.add_mul]; omega] at this
    exact this
theorem ldR_of {mk : Nat → Nat → List Value} {w : World} {Q : Nat → Prop} {b n : Nat} : ∀ {l : List (List G)} {o : Nat}, (∀ j (hj : j < l.length), l[j].length = n) → (∀ i (hi : i < l.length), ldE mk w Q b (o + i * n) l[i]) → ldR mk w Q b o l
  | [], _, _, _ => by simp only [ldR]
  | e :: r, o, hn, h => by
    simp only [ldR]
    have h0 : e.length = n := hn 0 (by simp)
    refine ⟨by have := h 0 (by simp); simpa using this, ldR_of (n := n) (fun j hj => hn (j + 1) (by simpa using hj)) fun i hi => ?_⟩
    have := h (i + 1) (by simpa using hi)
    rw [h0, show o + n + i * n = o + (i + 1) * n by rw [Nat.add_mul]; omega]
    simpa using this
/-- an element's cells, as values. -/
theorem rdE_vals {w : World} {Q : Nat → Prop} {b : Nat} : ∀ {e : List G} {o : Nat}, rdE w Q b o e → ∃ vs : List Value, vs.length = e.length ∧ (∀ j v, vs[j]? = some v → w.cell? ⟨b, o + j, none⟩ = some v) ∧ ∀ j (h : j < vs.length) (h' : j < e.length), G.rd w Q vs[j] e[j]
  | [], _, _ => ⟨[], rfl, fun j v h => by simp at h, fun j h => by simp at h⟩
  | x :: r, o, h => by
    simp only [rdE] at h
    obtain ⟨⟨v, h1, h2⟩, h3⟩ := h
    obtain ⟨vs, e1, e2, e3⟩ := rdE_vals h3
    refine ⟨v :: vs, by simp [e1], fun j u hu => ?_, fun j hj hj' => ?_⟩
    · match j with
      | 0 => simp at hu; subst hu; simpa using h1
      | j + 1 =>
        have := e2 j u (by simpa using hu)
        rw [show o + (j + 1) = o + 1 + j by omega]
        exact this
    · match j with
      | 0 => simpa using h2
      | j + 1 => simpa using e3 j (by simpa using hj) (by simpa using hj')
theorem ldE_vals {mk : Nat → Nat → List Value} {w : World} {Q : Nat → Prop} {b : Nat} : ∀ {e : List G} {o : Nat}, ldE mk w Q b o e → ∃ vs : List Value, vs.length = e.length ∧ (∀ j v, vs[j]? = some v → w.cell? ⟨b, o + j, none⟩ = some v) ∧ ∀ j (h : j < vs.length) (h' : j < e.length), G.ld mk w Q vs[j] e[j]
  | [], _, _ => ⟨[], rfl, fun j v h => by simp at h, fun j h => by simp at h⟩
  | x :: r, o, h => by
    simp only [ldE] at h
    obtain ⟨⟨v, h1, h2⟩, h3⟩ := h
    obtain ⟨vs, e1, e2, e3⟩ := ldE_vals h3
    refine ⟨v :: vs, by simp [e1], fun j u hu => ?_, fun j hj hj' => ?_⟩
    · match j with
      | 0 => simp at hu; subst hu; simpa using h1
      | j + 1 =>
        have := e2 j u (by simpa using hu)
        rw [show o + (j + 1) = o + 1 + j by omega]
        exact this
    · match j with
      | 0 => simpa using h2
      | j + 1 => simpa using e3 j (by simpa using hj) (by simpa using hj')
theorem ldE_of {mk : Nat → Nat → List Value} {w : World} {Q : Nat → Prop} {b : Nat} : ∀ {e : List G} {vs : List Value} {o : Nat}, vs.length = e.length → (∀ j v, vs[j]? = some v → w.cell? ⟨b, o + j, none⟩ = some v) → (∀ j (h : j < vs.length) (h' : j < e.length), G.ld mk w Q vs[j] e[j]) → ldE mk w Q b o e
  | [], _, _, _, _, _ => by simp only [ldE]
  | x :: r, [], _, h, _, _ => by simp at h
  | x :: r, v :: vs, o, h1, h2, h3 => by
    simp only [ldE]
    refine ⟨⟨v, by have := h2 0 v (by simp); simpa using this, by have := h3 0 (by simp) (by simp); simpa using this⟩, ldE_of (vs := vs) (by simpa using h1) (fun j u hu => ?_) fun j hj hj' => ?_⟩
    · have := h2 (j + 1) u (by simpa using hu)
      rw [show o + 1 + j = o + (j + 1) by omega]
      exact this
    · have := h3 (j + 1) (by simpa using hj) (by simpa using hj')
      simpa using this
/-- data that lie below what was there when a call began. -/
abbrev G.rdW (w : World) (v : Value) (x : G) : Prop := G.rd w (fun b => b < w.heap.size) v x
theorem G.rdW.next {w w' : World} {v : Value} {x : G} (h : G.rdW w v x) (hb : Below w.heap.size w w') : G.rdW w' v x :=
  G.rd.keep (fun b hlt => ⟨fun _ => World.cell?_of_block (hb.block b hlt), Nat.lt_of_lt_of_le hlt hb.size⟩) v x h
abbrev G.ldW (mk : Nat → Nat → List Value) (w : World) (v : Value) (x : G) : Prop := G.ld mk w (fun b => b < w.heap.size) v x
theorem G.ldW.next {mk : Nat → Nat → List Value} {w w' : World} {v : Value} {x : G} (h : G.ldW mk w v x) (hb : Below w.heap.size w w') : G.ldW mk w' v x :=
  G.ld.keep (fun b hlt => ⟨fun _ => World.cell?_of_block (hb.block b hlt), Nat.lt_of_lt_of_le hlt hb.size⟩) v x h


theorem cfE_of {S : Nat → List K} {N : Nat → Nat} : ∀ {ks : List K} {e : List G}, e.length = ks.length → (∀ j (h : j < ks.length) (h' : j < e.length), G.cf S N ks[j] e[j]) → cfE S N ks e
  | [], [], _, _ => by simp only [cfE]
  | k :: ks, x :: r, hl, h => by
    simp only [cfE]
    exact ⟨h 0 (by simp) (by simp), cfE_of (by simpa using hl) fun j hj hj' => h (j + 1) (by simpa using hj) (by simpa using hj')⟩
  | [], _ :: _, hl, _ => by simp at hl
  | _ :: _, [], hl, _ => by simp at hl
theorem cfR_of {S : Nat → List K} {N : Nat → Nat} {ks : List K} : ∀ {l : List (List G)}, (∀ i (h : i < l.length), cfE S N ks l[i]) → cfR S N ks l
  | [], _ => by simp only [cfR]
  | e :: r, h => by
    simp only [cfR]
    exact ⟨h 0 (by simp), cfR_of fun i hi => h (i + 1) (by simpa using hi)⟩
theorem rdE_of {w : World} {Q : Nat → Prop} {b : Nat} : ∀ {e : List G} {o : Nat}, (∀ j (h : j < e.length), ∃ v, w.cell? ⟨b, o + j, none⟩ = some v ∧ G.rd w Q v e[j]) → rdE w Q b o e
  | [], _, _ => by simp only [rdE]
  | x :: r, o, h => by
    simp only [rdE]
    refine ⟨by have := h 0 (by simp); simpa using this, rdE_of fun j hj => ?_⟩
    obtain ⟨v, h1, h2⟩ := h (j + 1) (by simpa using hj)
    exact ⟨v, by rw [show o + 1 + j = o + (j + 1) by omega]; exact h1, by simpa using h2⟩
theorem rdR_of {w : World} {Q : Nat → Prop} {b n : Nat} : ∀ {l : List (List G)} {o : Nat}, (∀ j (hj : j < l.length), l[j].length = n) → (∀ i (hi : i < l.length), rdE w Q b (o + i * n) l[i]) → rdR w Q b o l
  | [], _, _, _ => by simp only [rdR]
  | e :: r, o, hn, h => by
    simp only [rdR]
    have h0 : e.length = n := hn 0 (by simp)
    refine ⟨by have := h 0 (by simp); simpa using this, rdR_of (n := n) (fun j hj => hn (j + 1) (by simpa using hj)) fun i hi => ?_⟩
    have := h (i + 1) (by simpa using hi)
    rw [h0, show o + n + i * n = o + (i + 1) * n by rw [Nat.add_mul]; omega]
    simpa using this
/-- a kind that a table below T knows. -/
def K.known (T : Nat) : K → Prop | .sl t => t < T | _ => True
/-- types of kinds. -/
structure Tab (P : Program) (S : Nat → List K) (N : Nat → Nat) (KT : K → TypeId) (T : Nat) : Prop where
  int : P.underlying (KT .int) = some (.int .i64)
  byte : P.underlying (KT .byte) = some (.int .u8)
  bool : P.underlying (KT .bool) = some .bool
  str : P.underlying (KT .str) = some .string
  row : ∀ t, t < T → 0 < (S t).length ∧ ∃ e, P.underlying (KT (.sl t)) = some (.slice e) ∧ reachBytes < (N t + 1) * P.bytesOf e ∧ (∀ k ∈ S t, k.known T) ∧
    ((∃ fs : Array Field, P.underlying e = some (.struct fs) ∧ oneCellFields P fs = true ∧ P.cellsOf e = fs.size ∧ fs.toList.map (·.type) = (S t).map KT) ∨ (∃ k, S t = [k] ∧ e = KT k ∧ P.cellsOf e = 1))
theorem open_g {H : Type} {enc : TypeId × Value → H} {P : Program} {S : Nat → List K} {N : Nat → Nat} {KT : K → TypeId} {T : Nat} (tab : Tab P S N KT T) {W : World} : ∀ (fuel : Nat) (k : K) (v : Value) (y : DataW H × List MemPlace), k.known T → DataW.trod enc P W 0 (fun _ => true) true fuel (KT k) [v] = some y → (∀ n ∈ y.1.weights P (KT k), n ≤ reachBytes) →
    ∃ x : G, G.cf S N k x ∧ G.rdW W v x := by
  intro fuel
  induction fuel using Nat.strongRecOn with
  | ind fuel ih =>
  intro k v y hk h hz
  cases k with
  | int =>
    obtain ⟨n, hn, _, hw⟩ := DataW.trod_int tab.int h
    injection hn with hn
    exact ⟨.one v, by simp only [G.cf]; exact ⟨n, hn, hw⟩, by simp only [G.rdW, G.rd]⟩
  | byte =>
    obtain ⟨n, hn, _, hw⟩ := DataW.trod_int tab.byte h
    injection hn with hn
    exact ⟨.one v, by simp only [G.cf]; exact ⟨n, hn, hw⟩, by simp only [G.rdW, G.rd]⟩
  | bool =>
    obtain ⟨n, hn, _⟩ := DataW.trod_bool tab.bool h
    injection hn with hn
    exact ⟨.one v, by simp only [G.cf]; exact ⟨n, hn⟩, by simp only [G.rdW, G.rd]⟩
  | str =>
    obtain ⟨n, hn, _, hw⟩ := DataW.trod_string tab.str h
    injection hn with hn
    exact ⟨.one v, by simp only [G.cf]; exact ⟨n, hn, hw⟩, by simp only [G.rdW, G.rd]⟩
  | sl t =>
    have htT : t < T := hk
    obtain ⟨hS, e, hsl, hbytes, hkn, hkind⟩ := tab.row t htT
    -- what one element needs
    have fin : ∀ (a : Addr) (len cap : Nat) (el re : List (DataW H)), v = .slice (some a) len cap → len ≤ cap → cap ≤ maxLen → y.1 = .slice el re → el.length = len →
        (∀ i, i < len → ∃ e' : List G, e'.length = (S t).length ∧ cfE S N (S t) e' ∧ ∀ j (h : j < e'.length), ∃ u, W.cell? (a.add (i * (S t).length + j)) = some u ∧ G.rdW W u e'[j]) → 0 < (S t).length → ∃ x : G, G.cf S N (.sl t) x ∧ G.rdW W v x := by
      intro a len cap el re hv hl hm hy hel hex hS
      have hN : len ≤ N t := by
        rw [hy] at hz
        simp only [DataW.weights, hsl] at hz
        have := hz ((el.length + re.length) * P.bytesOf e) (by simp)
        rw [hel] at this
        rcases Nat.lt_or_ge (N t) len with hlt | hge
        · have h2 : (N t + 1) * P.bytesOf e ≤ (len + re.length) * P.bytesOf e := Nat.mul_le_mul_right _ (by omega)
          omega
        · exact hge
      obtain ⟨l, hll, hlp⟩ := list_of len _ hex
      subst hll
      refine ⟨.row t l, by simp only [G.cf]; exact ⟨trivial, hN, cfR_of fun i hi => (hlp i hi).2.1⟩, ?_⟩
      simp only [G.rdW, G.rd]
      refine ⟨some a, cap, hv, hl, hm, fun hn => ?_⟩
      obtain ⟨h1, _, h3⟩ := hlp 0 hn
      obtain ⟨u, hu, _⟩ := h3 0 (by omega)
      have h0 : a.add (0 * (S t).length + 0) = a := by simp [Addr.add]
      rw [h0] at hu
      have ea := addr_of_cell hu
      refine ⟨a.block, a.off, by rw [← ea], World.block_lt_of_cell? W _ hu, rdR_of (n := (S t).length) (fun j hj => (hlp j hj).1) fun i hi => rdE_of fun j hj => ?_⟩
      obtain ⟨u, hu, hr⟩ := (hlp i hi).2.2 j hj
      rw [ea, add_none, ← Nat.add_assoc] at hu
      exact ⟨u, hu, hr⟩
    rcases hkind with ⟨fs, hst, hone, hC, hfs⟩ | ⟨k, hSk, rfl, hC⟩
    · rcases slice_less2 hsl hst hone hC h with hcs | ⟨a, len, cap, n, el, re, hcs, hl, hm, hn, hy, hel, hi⟩
      · injection hcs with hcs
        subst hcs
        exact ⟨.row t [], by simp only [G.cf, cfR]; simp, by simp only [G.rdW, G.rd]; exact ⟨none, 0, rfl, Nat.le_refl _, by simp [maxLen], fun h => absurd h (by simp)⟩⟩
      · injection hcs with hcs
        have hfl : fs.size = (S t).length := by
          have := congrArg List.length hfs
          simpa using this
        refine fin a len cap el re hcs hl hm hy hel (fun i hil => ?_) hS
        obtain ⟨ys, hagg, hf⟩ := hi i (by omega)
        have hj : ∀ j, j < (S t).length → ∃ x : G, ∀ h : j < (S t).length, G.cf S N (S t)[j] x ∧ ∃ u, W.cell? (a.add (i * (S t).length + j)) = some u ∧ G.rdW W u x := by
          intro j hj
          have hjf : j < fs.size := by omega
          obtain ⟨u, y', hc, hy', ht⟩ := hf j fs[j] (Array.getElem?_eq_getElem hjf)
          have hty : fs[j].type = KT (S t)[j] := by
            have h1 := congrArg (fun l => l[j]?) hfs
            simp only [List.getElem?_map, Array.getElem?_toList, Array.getElem?_eq_getElem hjf, List.getElem?_eq_getElem hj, Option.map_some] at h1
            injection h1
          rw [hty] at ht
          obtain ⟨x, h1, h2⟩ := ih n hn (S t)[j] u y' (hkn _ (List.getElem_mem _)) ht (fun m hm => hz m (by
            rw [hy]
            simp only [DataW.weights, hsl]
            refine List.mem_cons_of_mem _ (List.mem_append_left _ (weightsAll_mem (List.getElem_mem (show i < el.length by omega)) ?_))
            rw [hagg]
            simp only [DataW.weights, hst]
            exact DataW.weights_mem_each (j := j) (t := KT (S t)[j]) (d := y'.1) (by rw [← hty]; simp [hjf]) (by simp [hy']) m hm))
          rw [hfl] at hc
          exact ⟨x, fun _ => ⟨h1, u, hc, h2⟩⟩
        obtain ⟨e', he', hp⟩ := list_of (S t).length _ hj
        exact ⟨e', he', cfE_of he' fun j h1 h2 => (hp j h2 h1).1, fun j hj => (hp j hj (by omega)).2⟩
    · rcases DataW.trod_slice hsl h with hcs | ⟨a, len, cap, elems, rest, n, hn, hcs, hx, _, hl, hm, hlen, hel, _, _⟩
      · have hcs := hcs.1
        injection hcs with hcs
        subst hcs
        exact ⟨.row t [], by simp only [G.cf, cfR]; simp, by simp only [G.rdW, G.rd]; exact ⟨none, 0, rfl, Nat.le_refl _, by simp [maxLen], fun h => absurd h (by simp)⟩⟩
      · injection hcs with hcs
        refine fin a len cap (elems.map (·.1)) (rest.map (·.1)) hcs hl hm (by rw [hx]) (by simpa using hlen) (fun i hil => ?_) (by rw [hSk]; simp)
        have key := hel i hil
        rw [List.getElem?_eq_getElem (by omega)] at key
        obtain ⟨cs', hc, ht'⟩ := Option.bind_eq_some_iff.1 key
        rw [hC] at hc
        obtain ⟨_, hcl, hat⟩ := World.cells?_some hc
        have h0 := hat 0 (by omega)
        obtain ⟨u, hu⟩ : ∃ u, cs' = [u] := by
          match cs', hcl with
          | [u], _ => exact ⟨u, rfl⟩
        subst hu
        obtain ⟨x, h1, h2⟩ := ih n (by omega) k u elems[i] (hkn k (by rw [hSk]; simp)) ht' (fun m hm => hz m (by
          rw [hx]
          simp only [DataW.weights, hsl]
          exact List.mem_cons_of_mem _ (List.mem_append_left _ (weightsAll_mem (List.mem_map.2 ⟨elems[i], List.getElem_mem _, rfl⟩) hm))))
        rw [hSk]
        refine ⟨[x], rfl, by simp only [cfE]; exact ⟨h1, trivial⟩, fun j hj => ?_⟩
        match j, hj with
        | 0, _ =>
          refine ⟨u, ?_, by simpa using h2⟩
          rw [← Go.Deep.add_add]
          simpa using h0

end Go.Proofs.YtknojjlfgjkbiaaGreatDoor
/- Maps with numbers at their keys: what a block of memory holds, key by key; look-up, store, delete, length, for the walk. -/
namespace Go.Proofs.YtknojjlfgjkbiaaGreatDoor
open Go.ChangeShapes Go.WideShapes Go.ChangeAt Go.RowKit Go.Maps

/-- a kind of keys: the map's type, the keys' type, a key's value and what it reads as. -/
structure MKind (κ : Type) where
  t : TypeId
  k : TypeId
  vl : κ → Value
  lit : κ → Lit
  good : κ → Prop
  law : Keyed Tryz.prog k
  und : Tryz.prog.underlying t = some (.map k 3)
  key : ∀ x, good x → keyOf Tryz.prog k (vl x) = some (lit x)
  inj : ∀ x y, vl x = vl y → x = y
  inv : ∀ v l, keyOf Tryz.prog k v = some l → ∃ x, good x ∧ v = vl x
section
variable {κ : Type} [DecidableEq κ] {M : MKind κ}
theorem MKind.lit_inj {x y : κ} (hx : M.good x) (hy : M.good y) (h : M.lit x = M.lit y) : x = y :=
  M.inj x y (M.law.inj (M.key x hx) (by rw [h]; exact M.key y hy))
theorem MKind.isKey {x : κ} (hx : M.good x) : WideAt.IsKeyLit (M.lit x) := M.law.key (M.key x hx)
abbrev i64D (n : Int) : DataW Unit := .lit (.int .i64 n)
/-- the datum has just the keys ks, and f at each key (nought where there is none). -/
structure KeyD (M : MKind κ) (ks : List κ) (f : κ → Int) (D : DataW Unit) : Prop where
  nodup : ks.Nodup
  good : ∀ x ∈ ks, M.good x
  size : Maps.size D = ks.length
  has : ∀ x, M.good x → Maps.has D (M.lit x) = decide (x ∈ ks)
  at_ : ∀ x, M.good x → D.atKey (M.lit x) (i64D 0) = i64D (f x)
  map : IsMap D
  tidy : Tidy D
theorem KeyD.zero {ks : List κ} {f : κ → Int} {D : DataW Unit} (h : KeyD M ks f D) {x : κ} (hg : M.good x) (hx : x ∉ ks) : f x = 0 := by
  have h1 := h.has x hg
  rw [decide_eq_false hx] at h1
  have h2 := h.at_ x hg
  rw [atKey_of_not_has h1] at h2
  have h3 : (0 : Int) = f x := by simpa [i64D] using h2
  exact h3.symm
theorem KeyD.nil : KeyD M ([] : List κ) (fun _ => 0) (.map []) :=
  ⟨List.nodup_nil, fun x h => by simp at h, rfl, fun x _ => rfl, fun x _ => rfl, isMap_empty, tidy_empty⟩
def setF (f : κ → Int) (x : κ) (v : Int) : κ → Int := fun y => if y = x then v else f y
theorem KeyD.put {ks : List κ} {f : κ → Int} {D : DataW Unit} (h : KeyD M ks f D) {x : κ} (hx : M.good x) (v : Int) : KeyD M (if x ∈ ks then ks else ks ++ [x]) (setF f x v) (D.put (M.lit x) (i64D v)) := by
  have hne : ∀ y, M.good y → y ≠ x → M.lit y ≠ M.lit x := fun y hy hn e => hn (MKind.lit_inj hy hx e)
  refine ⟨?_, ?_, ?_, fun y hy => ?_, fun y hy => ?_, h.map.put _ _, h.tidy.put (MKind.isKey hx) _⟩
  · split
    · exact h.nodup
    · rename_i hn
      rw [List.nodup_append]
      exact ⟨h.nodup, by simp, fun a ha b hb => by simp at hb; subst hb; exact fun e => hn (e ▸ ha)⟩
  · intro y hy
    split at hy
    · exact h.good y hy
    · rcases List.mem_append.1 hy with hy | hy
      · exact h.good y hy
      · simp at hy; subst hy; exact hx
  · rw [size_put h.tidy, h.has x hx, h.size]
    by_cases hm : x ∈ ks <;> simp [hm]
  · by_cases e : y = x
    · subst e
      rw [has_put_same h.map (MKind.isKey hx)]
      split
      · rename_i hm; simp [hm]
      · simp
    · rw [has_put_other (hne y hy e), h.has y hy]
      split
      · rfl
      · simp [e]
  · by_cases e : y = x
    · subst e
      rw [atKey_put_same h.map (MKind.isKey hx)]
      simp [setF]
    · rw [atKey_put_other (hne y hy e), h.at_ y hy]
      simp [setF, e]
theorem KeyD.del {ks : List κ} {f : κ → Int} {D : DataW Unit} (h : KeyD M ks f D) {x : κ} (hx : M.good x) : KeyD M (ks.erase x) (setF f x 0) (D.del (M.lit x)) := by
  have hne : ∀ y, M.good y → y ≠ x → M.lit y ≠ M.lit x := fun y hy hn e => hn (MKind.lit_inj hy hx e)
  refine ⟨h.nodup.erase _, fun y hy => h.good y (List.mem_of_mem_erase hy), ?_, fun y hy => ?_, fun y hy => ?_, h.map.del _, h.tidy.del _⟩
  · have := size_del (k := M.lit x) h.tidy
    rw [h.has x hx, h.size] at this
    by_cases hm : x ∈ ks
    · have hp := List.length_pos_of_mem hm
      rw [List.length_erase_of_mem hm]
      simp [hm] at this
      omega
    · rw [List.erase_of_not_mem hm]
      simpa [hm] using this
  · by_cases e : y = x
    · subst e
      rw [has_del_same]
      have : y ∉ ks.erase y := fun hm => by
        have := (List.Nodup.mem_erase_iff h.nodup).1 hm
        exact this.1 rfl
      simp [this]
    · rw [has_del_other (hne y hy e), h.has y hy]
      congr 1
      rw [List.mem_erase_of_ne e]
  · by_cases e : y = x
    · subst e
      rw [atKey_del_same]
      simp [setF]
    · rw [atKey_del_other (hne y hy e), h.at_ y hy]
      simp [setF, e]
/-- block b is a map with the keys ks and f at each key; n: a bound on its entries. -/
def OnMap (M : MKind κ) (w : World) (b n : Nat) (ks : List κ) (f : κ → Int) : Prop := ∃ D, w.ownsMap Tryz.prog M.k (plainElem Tryz.prog 3) b n D ∧ KeyD M ks f D
variable {w w' : World} {b n : Nat} {ks : List κ} {f : κ → Int}
theorem OnMap.made (w : World) : OnMap M (w.alloc (.map #[] 0)) w.heap.size 0 ([] : List κ) (fun _ => 0) := ⟨_, World.ownsMap_made _ _ _ _, KeyD.nil⟩
theorem OnMap.lt (h : OnMap M w b n ks f) : b < w.heap.size := h.choose_spec.1.lt
theorem OnMap.len_le (h : OnMap M w b n ks f) : ks.length ≤ n := by
  obtain ⟨D, h1, h2⟩ := h
  rw [← h2.size]
  exact h1.size_le
theorem OnMap.mono (h : OnMap M w b n ks f) {m : Nat} (hm : n ≤ m) : OnMap M w b m ks f := let ⟨D, h1, h2⟩ := h; ⟨D, h1.mono hm, h2⟩
theorem OnMap.kept {row : Option Nat} (h : OnMap M w b n ks f) (hg : w.grownBy w' row) (hne : some b ≠ row) : OnMap M w' b n ks f := let ⟨D, h1, h2⟩ := h; ⟨D, h1.kept hg hne, h2⟩
theorem OnMap.below {B : Nat} (h : OnMap M w b n ks f) (hb : Below B w w') (hlt : b < B) : OnMap M w' b n ks f := by
  obtain ⟨D, ⟨es, clock, h1, h2⟩, h3⟩ := h
  exact ⟨D, ⟨es, clock, (hb.block b hlt).trans h1, h2⟩, h3⟩
theorem OnMap.alloc (h : OnMap M w b n ks f) (o : Obj) : OnMap M (w.alloc o) b n ks f := let ⟨D, h1, h2⟩ := h; ⟨D, h1.alloc o, h2⟩
theorem OnMap.drew (h : OnMap M w b n ks f) : OnMap M w.drew b n ks f := h
theorem OnMap.setCell (h : OnMap M w b n ks f) {a : Addr} (ha : b ≠ a.block) (u : Value) : OnMap M (w.setCell a u) b n ks f := let ⟨D, h1, h2⟩ := h; ⟨D, h1.setCell ha u, h2⟩
theorem OnMap.obj (h : OnMap M w b n ks f) : ∃ es clock, w.heap[b]? = some (.map es clock) := let ⟨_, ⟨es, clock, h1, _⟩, _⟩ := h; ⟨es, clock, h1⟩
theorem OnMap.same (h : OnMap M w b n ks f) (e : w'.heap[b]? = w.heap[b]?) : OnMap M w' b n ks f := by
  obtain ⟨D, ⟨es, clock, h1, h2⟩, h3⟩ := h
  exact ⟨D, ⟨es, clock, e.trans h1, h2⟩, h3⟩
theorem zero3 (w : World) : (zeroValue 3).run Tryz.prog w = .ok (.int .i64 0) w := by kernel_rfl
/-- 'm[k]', as an equation. -/
theorem OnMap.run_look (h : OnMap M w b n ks f) {y : κ} (hy : M.good y) : (Instr.lookup M.t (.map (some b)) (M.vl y) false).run Tryz.prog w = .ok (.int .i64 (f y)) w := by
  obtain ⟨D, h1, h2⟩ := h
  obtain ⟨c, hr, hat, _⟩ := h1.lookup_int M.law M.und Tryz.underlying3 (zero3 w) (M.key y hy)
  have e := h2.at_ y hy
  rw [hat] at e
  obtain rfl : c = f y := by simpa [i64D] using e
  exact hr
theorem OnMap.lookNil {y : κ} (hy : M.good y) : (Instr.lookup M.t (.map none) (M.vl y) false).run Tryz.prog w = .ok (.int .i64 0) w := Maps.look_nil false M.law M.und (zero3 w) (M.key y hy)
theorem OnMap.run_len (h : OnMap M w b n ks f) (ty : TypeId) : (Builtin.len_ #[M.t] ty #[.map (some b)]).run Tryz.prog w = .ok (.int .i64 ks.length) w := by
  obtain ⟨D, h1, h2⟩ := h
  rw [h1.len M.und ty, h2.size]
theorem wpList_look {ops : Array Oper} {rest : List Oper} {o : Oper} {a : Act} {Q : Exit → Act → World → Prop} (hg : o.guard = none) (m x : Operand) (hop : o.op = Op.lookup M.t m x false)
    (hm : a.eval m = .map (some b)) (h : OnMap M w b n ks f) (y : κ) (hy : M.good y) (hx : a.eval x = M.vl y) (hK : wpList Tryz.prog ops Q rest (a.put o.dst (.int .i64 (f y))) w) : wpList Tryz.prog ops Q (o :: rest) a w := by
  refine wpList_plain hg fun K' hK' => ?_
  unfold Oper.wp
  simp [execOp, hop, hm, hx, h.run_look hy, Result.andThen]
  exact hK' _ _ hK
theorem OnMap.run_store (h : OnMap M w b n ks f) (hn : n < maxLen) {y : κ} (hy : M.good y) (v : Int) (hv : (Lit.int .i64 v).wf = true) :
    ∃ w', (Instr.mapUpdate M.t (.map (some b)) (M.vl y) (.int .i64 v)).run Tryz.prog w = .ok () w' ∧ OnMap M w' b (n + 1) (if y ∈ ks then ks else ks ++ [y]) (setF f y v) ∧ w.grownBy w' (some b) := by
  obtain ⟨D, h1, h2⟩ := h
  obtain ⟨w', hr, r1, r2⟩ := h1.update M.law M.und hn (M.key y hy) (plainElem_int Tryz.underlying3 hv)
  exact ⟨w', hr, ⟨_, r1, h2.put hy v⟩, r2⟩
theorem wpList_store {ops : Array Oper} {rest : List Oper} {o : Oper} {a : Act} {Q : Exit → Act → World → Prop} (hg : o.guard = none) (m x u : Operand) (hop : o.op = Op.mapUpdate M.t m x u)
    (hm : a.eval m = .map (some b)) (h : OnMap M w b n ks f) (hn : n < maxLen) (y : κ) (hy : M.good y) (hx : a.eval x = M.vl y) (v : Int) (hu : a.eval u = .int .i64 v) (hv : (Lit.int .i64 v).wf = true)
    (hK : ∀ w', OnMap M w' b (n + 1) (if y ∈ ks then ks else ks ++ [y]) (setF f y v) → w.grownBy w' (some b) → wpList Tryz.prog ops Q rest (a.put o.dst undef) w') : wpList Tryz.prog ops Q (o :: rest) a w := by
  refine wpList_plain hg fun K' hK' => ?_
  obtain ⟨w', hr, r1, r2⟩ := h.run_store hn hy v hv
  unfold Oper.wp
  simp [execOp, hop, hm, hx, hu, hr, Result.andThen]
  exact hK' _ _ (hK w' r1 r2)
theorem OnMap.run_del (h : OnMap M w b n ks f) {y : κ} (hy : M.good y) (ty : TypeId) :
    ∃ w', (Builtin.delete_ #[M.t, M.k] ty #[.map (some b), M.vl y]).run Tryz.prog w = .ok (.tuple #[]) w' ∧ OnMap M w' b n (ks.erase y) (setF f y 0) ∧ w.mapTurned w' b := by
  obtain ⟨D, h1, h2⟩ := h
  obtain ⟨w', hr, r1, r2⟩ := h1.drop M.law M.und (M.key y hy) ty
  exact ⟨w', hr, ⟨_, r1, h2.del hy⟩, r2⟩
end
end Go.Proofs.YtknojjlfgjkbiaaGreatDoor
