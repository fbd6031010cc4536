/- Texts L0 B2 B3, joined. -/
import Derived.DeepKeys4
import Derived.Test.YtknojjlfgjkbiaaGreatDoorH01
set_option linter.unusedSimpArgs false
set_option linter.unusedVariables false
set_option linter.unusedSectionVars false
/- Causes in plain words: the order of the units, the accused units, and what the chapter says of them. -/
namespace Go.Proofs.YtknojjlfgjkbiaaGreatDoor

structure Ca (ν ρ : Type) where
  unit : ν
  needs : List ρ
  excl : List ν
section
variable {ν ρ : Type} [DecidableEq ν] [DecidableEq ρ]
/-- all units that u excludes are in a list. -/
def freeV (l : List (Ca ν ρ)) (out : List ν) (u : ν) : Bool := l.all fun c => !decide (c.unit = u) || c.excl.all fun x => decide (x ∈ out)
def addU (acc : List ν) (u : ν) : List ν := if u ∈ acc then acc else acc ++ [u]
/-- the units, each once, in the order of their first causes. -/
def unitsV (l : List (Ca ν ρ)) : List ν := (l.map Ca.unit).foldl addU []
/-- the first unit that can be listed next. -/
def nextV (l : List (Ca ν ρ)) (out : List ν) : Option ν := (l.find? fun c => !decide (c.unit ∈ out) && freeV l out c.unit).map Ca.unit
def orderL (l : List (Ca ν ρ)) : Nat → List ν → List ν
  | 0, out => out
  | f + 1, out => match nextV l out with
    | none => out
    | some u => orderL l f (out ++ [u])
def orderV (l : List (Ca ν ρ)) : List ν := orderL l (l.length + 1) []
/-- the causes are well-founded. -/
def okV (l : List (Ca ν ρ)) : Bool := decide ((orderV l).length = (unitsV l).length)
def holdsV (reps : List ρ) (us : List ν) (c : Ca ν ρ) : Bool := c.needs.all (fun r => decide (r ∈ reps)) && c.excl.all (fun x => !decide (x ∈ us))
/-- a cause of u holds. -/
def hitV (l : List (Ca ν ρ)) (reps : List ρ) (us : List ν) (u : ν) : Bool := l.any fun c => decide (c.unit = u) && holdsV reps us c
def accL (l : List (Ca ν ρ)) (reps : List ρ) : List ν → List ν → List ν
  | [], out => out
  | u :: r, out => accL l reps r (if hitV l reps out u then out ++ [u] else out)
/-- the accused units of well-founded causes. -/
def accV (l : List (Ca ν ρ)) (reps : List ρ) : List ν := accL l reps (orderV l) []

theorem len_le : ∀ (a b : List ν), a.Nodup → (∀ x ∈ a, x ∈ b) → a.length ≤ b.length
  | [], b, _, _ => Nat.zero_le _
  | x :: a, b, hn, hs => by
    obtain ⟨h1, h2⟩ := List.nodup_cons.1 hn
    have hx : x ∈ b := hs x (by simp)
    have := len_le a (b.erase x) h2 fun y hy => (List.mem_erase_of_ne (fun e => h1 (by subst e; exact hy))).2 (hs y (by simp [hy]))
    rw [List.length_erase_of_mem hx] at this
    have hb : 0 < b.length := List.length_pos_of_mem hx
    simp only [List.length_cons]
    omega
theorem all_of_len {a b : List ν} (hn : a.Nodup) (hs : ∀ x ∈ a, x ∈ b) (hl : b.length ≤ a.length) : ∀ x ∈ b, x ∈ a := fun x hx => by
  rcases Decidable.em (x ∈ a) with h | h
  · exact h
  · have := len_le (x :: a) b (List.nodup_cons.2 ⟨h, hn⟩) fun y hy => by
      rcases List.mem_cons.1 hy with rfl | hy
      · exact hx
      · exact hs y hy
    simp only [List.length_cons] at this
    omega
theorem mem_addU {acc : List ν} {u x : ν} : x ∈ addU acc u ↔ x ∈ acc ∨ x = u := by
  unfold addU
  split
  · rename_i h
    exact ⟨.inl, fun h' => h'.elim id fun e => e ▸ h⟩
  · simp
theorem mem_fold : ∀ (us acc : List ν) (x : ν), x ∈ us.foldl addU acc ↔ x ∈ acc ∨ x ∈ us
  | [], acc, x => by simp
  | u :: us, acc, x => by
    rw [List.foldl_cons, mem_fold us, mem_addU, List.mem_cons, or_assoc]
theorem nodup_addU {acc : List ν} {u : ν} (h : acc.Nodup) : (addU acc u).Nodup := by
  unfold addU
  split
  · exact h
  · rename_i hu
    rw [List.nodup_append]
    exact ⟨h, by simp, fun a ha b hb => by simp at hb; subst hb; exact fun e => hu (e ▸ ha)⟩
theorem nodup_fold : ∀ (us acc : List ν), acc.Nodup → (us.foldl addU acc).Nodup
  | [], acc, h => h
  | u :: us, acc, h => nodup_fold us _ (nodup_addU h)
theorem len_fold : ∀ (us acc : List ν), (us.foldl addU acc).length ≤ acc.length + us.length
  | [], acc => by simp
  | u :: us, acc => by
    have := len_fold us (addU acc u)
    have h2 : (addU acc u).length ≤ acc.length + 1 := by unfold addU; split <;> simp
    simp only [List.foldl_cons, List.length_cons]
    omega
theorem mem_units {l : List (Ca ν ρ)} {u : ν} : u ∈ unitsV l ↔ ∃ c ∈ l, c.unit = u := by
  unfold unitsV
  rw [mem_fold]
  simp
theorem nodup_units (l : List (Ca ν ρ)) : (unitsV l).Nodup := nodup_fold _ _ List.nodup_nil
theorem len_units (l : List (Ca ν ρ)) : (unitsV l).length ≤ l.length := by
  have := len_fold (l.map Ca.unit) []
  simpa [unitsV] using this
theorem free_iff {l : List (Ca ν ρ)} {out : List ν} {u : ν} : freeV l out u = true ↔ ∀ c ∈ l, c.unit = u → ∀ x ∈ c.excl, x ∈ out := by
  unfold freeV
  rw [List.all_eq_true]
  refine ⟨fun h c hc e x hx => ?_, fun h c hc => ?_⟩
  · have := h c hc
    rw [decide_eq_true e] at this
    simp only [Bool.not_true, Bool.false_or, List.all_eq_true, decide_eq_true_eq] at this
    exact this x hx
  · rcases Decidable.em (c.unit = u) with e | e
    · rw [decide_eq_true e]
      simp only [Bool.not_true, Bool.false_or, List.all_eq_true, decide_eq_true_eq]
      exact h c hc e
    · rw [decide_eq_false e]; rfl
/-- a list of units, each behind those that it excludes. -/
structure OrdOk (l : List (Ca ν ρ)) (out : List ν) : Prop where
  nodup : out.Nodup
  sub : ∀ u ∈ out, u ∈ unitsV l
  before : ∀ i (h : i < out.length), ∀ c ∈ l, c.unit = out[i] → ∀ x ∈ c.excl, x ∈ out.take i
theorem OrdOk.nil (l : List (Ca ν ρ)) : OrdOk l [] := ⟨List.nodup_nil, fun u h => by simp at h, fun i h => by simp at h⟩
theorem OrdOk.push {l : List (Ca ν ρ)} {out : List ν} {u : ν} (h : OrdOk l out) (hu : u ∈ unitsV l) (hn : u ∉ out) (hf : freeV l out u = true) : OrdOk l (out ++ [u]) := by
  refine ⟨?_, fun x hx => ?_, fun i hi c hc e x hx => ?_⟩
  · rw [List.nodup_append]
    exact ⟨h.nodup, by simp, fun a ha b hb => by simp at hb; subst hb; exact fun e => hn (e ▸ ha)⟩
  · rcases List.mem_append.1 hx with hx | hx
    · exact h.sub x hx
    · simp at hx; subst hx; exact hu
  · by_cases hlt : i < out.length
    · rw [List.getElem_append_left hlt] at e
      have := h.before i hlt c hc e x hx
      rw [List.take_append_of_le_length (by omega)]
      exact this
    · have hi2 : i = out.length := by simp at hi; omega
      subst hi2
      rw [List.take_append_of_le_length (Nat.le_refl _), List.take_length]
      simp at e
      exact free_iff.1 hf c hc e x hx
theorem next_some {l : List (Ca ν ρ)} {out : List ν} {u : ν} (h : nextV l out = some u) : u ∈ unitsV l ∧ u ∉ out ∧ freeV l out u = true := by
  unfold nextV at h
  rw [Option.map_eq_some_iff] at h
  obtain ⟨c, hc, rfl⟩ := h
  have h1 := List.find?_some hc
  have h2 := List.mem_of_find?_eq_some hc
  simp only [Bool.and_eq_true, Bool.not_eq_true', decide_eq_false_iff_not] at h1
  exact ⟨mem_units.2 ⟨c, h2, rfl⟩, h1.1, h1.2⟩
theorem next_none {l : List (Ca ν ρ)} {out : List ν} (h : nextV l out = none) {u : ν} (hu : u ∈ unitsV l) (hf : freeV l out u = true) : u ∈ out := by
  unfold nextV at h
  rw [Option.map_eq_none_iff, List.find?_eq_none] at h
  obtain ⟨c, hc, rfl⟩ := mem_units.1 hu
  have := h c hc
  rw [hf, Bool.and_true] at this
  simpa using this
theorem orderL_ok {l : List (Ca ν ρ)} : ∀ (f : Nat) (out : List ν), OrdOk l out → OrdOk l (orderL l f out)
  | 0, out, h => h
  | f + 1, out, h => by
    unfold orderL
    split
    · exact h
    · rename_i u hn
      obtain ⟨h1, h2, h3⟩ := next_some hn
      exact orderL_ok f _ (h.push h1 h2 h3)
theorem orderL_stuck {l : List (Ca ν ρ)} : ∀ (f : Nat) (out : List ν), OrdOk l out → (unitsV l).length < out.length + f → nextV l (orderL l f out) = none
  | 0, out, h, hl => absurd (len_le out _ h.nodup h.sub) (by omega)
  | f + 1, out, h, hl => by
    unfold orderL
    split
    · rename_i hn; exact hn
    · rename_i u hn
      obtain ⟨h1, h2, h3⟩ := next_some hn
      exact orderL_stuck f _ (h.push h1 h2 h3) (by simp; omega)
theorem order_ok (l : List (Ca ν ρ)) : OrdOk l (orderV l) := orderL_ok _ _ (OrdOk.nil l)
theorem order_stuck (l : List (Ca ν ρ)) : nextV l (orderV l) = none := orderL_stuck _ _ (OrdOk.nil l) (by have := len_units l; simp; omega)
theorem order_len (l : List (Ca ν ρ)) : (orderV l).length ≤ (unitsV l).length := len_le _ _ (order_ok l).nodup (order_ok l).sub
theorem ok_all {l : List (Ca ν ρ)} (h : okV l = true) : ∀ u ∈ unitsV l, u ∈ orderV l := all_of_len (order_ok l).nodup (order_ok l).sub (by have := of_decide_eq_true h; omega)
/-- whatever list of units holds them all shows the causes well-founded. -/
theorem ok_of {l : List (Ca ν ρ)} {out : List ν} (h : OrdOk l out) (hl : (unitsV l).length ≤ out.length) : okV l = true := by
  have hall := all_of_len h.nodup h.sub hl
  have key : ∀ n i (hi : i < out.length), i < n → out[i] ∈ orderV l := by
    intro n
    induction n with
    | zero => intro i _ h; omega
    | succ n ih =>
      intro i hi hin
      refine next_none (order_stuck l) (h.sub _ (List.getElem_mem hi)) (free_iff.2 fun c hc e x hx => ?_)
      have := h.before i hi c hc e x hx
      obtain ⟨j, hj, rfl⟩ := List.getElem_of_mem this
      rw [List.length_take] at hj
      rw [List.getElem_take]
      exact ih j (by omega) (by omega)
  refine decide_eq_true (Nat.le_antisymm (order_len l) (len_le _ _ (nodup_units l) fun u hu => ?_))
  obtain ⟨i, hi, rfl⟩ := List.getElem_of_mem (hall u hu)
  exact key (i + 1) i hi (by omega)
/-- units are taken away that exclude only such as were taken away. -/
def goneStep (l : List (Ca ν ρ)) (gone : List ν) (u : ν) : List ν := if (!decide (u ∈ gone) && freeV l gone u) = true then gone ++ [u] else gone
def goneR (l : List (Ca ν ρ)) (us gone : List ν) : List ν := us.foldl (goneStep l) gone
def goneV (l : List (Ca ν ρ)) : Nat → List ν
  | 0 => []
  | n + 1 => goneR l (unitsV l) (goneV l n)
theorem goneStep_ok {l : List (Ca ν ρ)} {gone : List ν} {u : ν} (h : OrdOk l gone) (hu : u ∈ unitsV l) : OrdOk l (goneStep l gone u) := by
  unfold goneStep
  split
  · rename_i hc
    simp only [Bool.and_eq_true, Bool.not_eq_true', decide_eq_false_iff_not] at hc
    exact h.push hu hc.1 hc.2
  · exact h
theorem goneR_ok {l : List (Ca ν ρ)} : ∀ (us gone : List ν), OrdOk l gone → (∀ u ∈ us, u ∈ unitsV l) → OrdOk l (goneR l us gone)
  | [], gone, h, _ => h
  | u :: us, gone, h, hs => goneR_ok us _ (goneStep_ok h (hs u (by simp))) fun x hx => hs x (by simp [hx])
theorem goneV_ok (l : List (Ca ν ρ)) : ∀ n, OrdOk l (goneV l n)
  | 0 => OrdOk.nil l
  | n + 1 => goneR_ok _ _ (goneV_ok l n) fun _ h => h
theorem gone_less {l : List (Ca ν ρ)} (h : okV l = false) (n : Nat) : (goneV l n).length < (unitsV l).length := by
  rcases Nat.lt_or_ge (goneV l n).length (unitsV l).length with h1 | h1
  · exact h1
  · rw [ok_of (goneV_ok l n) h1] at h; cases h

theorem holds_iff {reps : List ρ} {us : List ν} {c : Ca ν ρ} : holdsV reps us c = true ↔ (∀ r ∈ c.needs, r ∈ reps) ∧ ∀ x ∈ c.excl, x ∉ us := by
  unfold holdsV
  simp
theorem hit_iff {l : List (Ca ν ρ)} {reps : List ρ} {us : List ν} {u : ν} : hitV l reps us u = true ↔ ∃ c ∈ l, c.unit = u ∧ holdsV reps us c = true := by
  unfold hitV
  simp
theorem accL_append (l : List (Ca ν ρ)) (reps : List ρ) : ∀ (a b out : List ν), accL l reps (a ++ b) out = accL l reps b (accL l reps a out)
  | [], b, out => rfl
  | u :: a, b, out => by
    simp only [List.cons_append, accL]
    exact accL_append l reps a b _
/-- what is accused further comes of the rest. -/
theorem accL_mem (l : List (Ca ν ρ)) (reps : List ρ) : ∀ (a out : List ν) (x : ν), (x ∈ out → x ∈ accL l reps a out) ∧ (x ∈ accL l reps a out → x ∈ out ∨ x ∈ a)
  | [], out, x => ⟨id, .inl⟩
  | u :: a, out, x => by
    have ih := accL_mem l reps a (if hitV l reps out u then out ++ [u] else out) x
    simp only [accL]
    refine ⟨fun h => ih.1 (by split <;> simp [h]), fun h => ?_⟩
    rcases ih.2 h with h | h
    · split at h
      · rcases List.mem_append.1 h with h | h
        · exact .inl h
        · simp at h; subst h; simp
      · exact .inl h
    · exact .inr (by simp [h])
theorem accL_nodup (l : List (Ca ν ρ)) (reps : List ρ) : ∀ (a out : List ν), out.Nodup → a.Nodup → (∀ x ∈ a, x ∉ out) → (accL l reps a out).Nodup
  | [], out, h, _, _ => h
  | u :: a, out, h, ha, hd => by
    obtain ⟨h1, h2⟩ := List.nodup_cons.1 ha
    simp only [accL]
    refine accL_nodup l reps a _ ?_ h2 fun x hx => ?_
    · split
      · rw [List.nodup_append]
        exact ⟨h, by simp, fun y hy b hb => by simp at hb; subst hb; exact fun e => hd b (by simp) (e ▸ hy)⟩
      · exact h
    · split
      · intro hm
        rcases List.mem_append.1 hm with hm | hm
        · exact hd x (by simp [hx]) hm
        · simp at hm; subst hm; exact h1 hx
      · exact hd x (by simp [hx])
/-- accused is who has a cause that holds. -/
theorem acc_char {l : List (Ca ν ρ)} {ord : List ν} (reps : List ρ) (h : OrdOk l ord) {u : ν} (hu : u ∈ ord) : u ∈ accL l reps ord [] ↔ hitV l reps (accL l reps ord []) u = true := by
  obtain ⟨i, hi, rfl⟩ := List.getElem_of_mem hu
  have hsplit : ord = ord.take i ++ ord[i] :: ord.drop (i + 1) := by
    rw [List.getElem_cons_drop, List.take_append_drop]
  have hnd := h.nodup
  rw [hsplit, List.nodup_append] at hnd
  obtain ⟨hn1, hn2, hn3⟩ := hnd
  obtain ⟨hn4, hn5⟩ := List.nodup_cons.1 hn2
  obtain ⟨Ai, hAi⟩ : ∃ Ai, Ai = accL l reps (ord.take i) [] := ⟨_, rfl⟩
  have hA : accL l reps ord [] = accL l reps (ord.drop (i + 1)) (if hitV l reps Ai ord[i] then Ai ++ [ord[i]] else Ai) := by
    conv => lhs; rw [hsplit, accL_append, ← hAi]
    rfl
  have hAsub : ∀ x, x ∈ Ai → x ∈ ord.take i := fun x hx => by
    rw [hAi] at hx
    exact ((accL_mem l reps _ [] x).2 hx).elim (fun h => by simp at h) id
  -- of those before, accused at the end is who was accused then
  have hold : ∀ x ∈ ord.take i, (x ∈ accL l reps ord [] ↔ x ∈ Ai) := fun x hx => by
    rw [hA]
    refine ⟨fun hm => ?_, fun hm => (accL_mem l reps _ _ x).1 (by split <;> simp [hm])⟩
    rcases (accL_mem l reps _ _ x).2 hm with hm | hm
    · split at hm
      · rcases List.mem_append.1 hm with hm | hm
        · exact hm
        · simp at hm; subst hm; exact absurd rfl (hn3 _ hx _ List.mem_cons_self)
      · exact hm
    · exact absurd rfl (hn3 _ hx _ (List.mem_cons_of_mem _ hm))
  have hhit : hitV l reps (accL l reps ord []) ord[i] = hitV l reps Ai ord[i] := by
    rw [Bool.eq_iff_iff, hit_iff, hit_iff]
    refine ⟨fun ⟨c, hc, e, hh⟩ => ⟨c, hc, e, ?_⟩, fun ⟨c, hc, e, hh⟩ => ⟨c, hc, e, ?_⟩⟩
    · rw [holds_iff] at hh ⊢
      exact ⟨hh.1, fun x hx hm => hh.2 x hx ((hold x (h.before i hi c hc e x hx)).2 hm)⟩
    · rw [holds_iff] at hh ⊢
      exact ⟨hh.1, fun x hx hm => hh.2 x hx ((hold x (h.before i hi c hc e x hx)).1 hm)⟩
  rw [hhit, hA]
  refine ⟨fun hm => ?_, fun hm => (accL_mem l reps _ _ _).1 (by rw [if_pos hm]; simp)⟩
  rcases (accL_mem l reps _ _ _).2 hm with hm | hm
  · split at hm
    · rename_i hc; exact hc
    · have := hAsub _ hm
      exact absurd rfl (hn3 _ this _ List.mem_cons_self)
  · exact absurd hm hn4
/-- a set of units that is right, of well-founded causes: the accused ones. -/
theorem acc_only {l : List (Ca ν ρ)} (reps : List ρ) (hok : okV l = true) {S : List ν} (hS : ∀ u ∈ unitsV l, (u ∈ S ↔ hitV l reps S u = true)) : ∀ u ∈ unitsV l, (u ∈ S ↔ u ∈ accV l reps) := by
  have ho := order_ok l
  have key : ∀ n i (hi : i < (orderV l).length), i < n → ((orderV l)[i] ∈ S ↔ (orderV l)[i] ∈ accV l reps) := by
    intro n
    induction n with
    | zero => intro i _ h; omega
    | succ n ih =>
      intro i hi hin
      rw [hS _ (ho.sub _ (List.getElem_mem hi)), show accV l reps = accL l reps (orderV l) [] from rfl, acc_char reps ho (List.getElem_mem hi), hit_iff, hit_iff]
      have hx : ∀ c ∈ l, c.unit = (orderV l)[i] → ∀ x ∈ c.excl, (x ∈ S ↔ x ∈ accL l reps (orderV l) []) := fun c hc e x hx => by
        have := ho.before i hi c hc e x hx
        obtain ⟨j, hj, rfl⟩ := List.getElem_of_mem this
        rw [List.length_take] at hj
        rw [List.getElem_take]
        exact ih j (by omega) (by omega)
      refine ⟨fun ⟨c, hc, e, hh⟩ => ⟨c, hc, e, ?_⟩, fun ⟨c, hc, e, hh⟩ => ⟨c, hc, e, ?_⟩⟩
      · rw [holds_iff] at hh ⊢
        exact ⟨hh.1, fun x hm hs => hh.2 x hm ((hx c hc e x hm).2 hs)⟩
      · rw [holds_iff] at hh ⊢
        exact ⟨hh.1, fun x hm hs => hh.2 x hm ((hx c hc e x hm).1 hs)⟩
  intro u hu
  obtain ⟨i, hi, rfl⟩ := List.getElem_of_mem (ok_all hok u hu)
  exact key (i + 1) i hi (by omega)
theorem acc_right {l : List (Ca ν ρ)} (reps : List ρ) (hok : okV l = true) : ∀ u ∈ unitsV l, (u ∈ accV l reps ↔ hitV l reps (accV l reps) u = true) := fun u hu => acc_char reps (order_ok l) (ok_all hok u hu)
theorem acc_sub (l : List (Ca ν ρ)) (reps : List ρ) : ∀ u ∈ accV l reps, u ∈ unitsV l := fun u hu => by
  rcases (accL_mem l reps _ _ _).2 hu with h | h
  · simp at h
  · exact (order_ok l).sub u h
theorem acc_nodup (l : List (Ca ν ρ)) (reps : List ρ) : (accV l reps).Nodup := accL_nodup l reps _ _ List.nodup_nil (order_ok l).nodup fun x _ h => by simp at h
/-- only which reports there are matters. -/
theorem holds_congr {reps reps' : List ρ} (h : ∀ r, r ∈ reps ↔ r ∈ reps') (us : List ν) (c : Ca ν ρ) : holdsV reps us c = holdsV reps' us c := by
  rw [Bool.eq_iff_iff, holds_iff, holds_iff]
  simp only [h]
theorem hit_congr {reps reps' : List ρ} (h : ∀ r, r ∈ reps ↔ r ∈ reps') (l : List (Ca ν ρ)) (us : List ν) (u : ν) : hitV l reps us u = hitV l reps' us u := by
  unfold hitV
  simp only [holds_congr h]
theorem accL_congr {reps reps' : List ρ} (h : ∀ r, r ∈ reps ↔ r ∈ reps') (l : List (Ca ν ρ)) : ∀ (a out : List ν), accL l reps a out = accL l reps' a out
  | [], out => rfl
  | u :: a, out => by
    simp only [accL, hit_congr h]
    exact accL_congr h l a _
/-- nothing is excluded: well-founded, and more reports accuse no fewer. -/
theorem ok_plain {l : List (Ca ν ρ)} (h : ∀ c ∈ l, c.excl = []) : okV l = true := by
  have hall : ∀ u ∈ unitsV l, u ∈ orderV l := fun u hu => next_none (order_stuck l) hu (free_iff.2 fun c hc _ x hx => by rw [h c hc] at hx; simp at hx)
  exact decide_eq_true (Nat.le_antisymm (order_len l) (len_le _ _ (nodup_units l) hall))
theorem acc_more {l : List (Ca ν ρ)} {reps reps' : List ρ} (h : ∀ c ∈ l, c.excl = []) (hr : ∀ r ∈ reps, r ∈ reps') : ∀ u ∈ accV l reps, u ∈ accV l reps' := fun u hu => by
  have hok := ok_plain h
  have hun := acc_sub l reps u hu
  rw [acc_right reps hok u hun, hit_iff] at hu
  obtain ⟨c, hc, e, hh⟩ := hu
  rw [acc_right reps' hok u hun, hit_iff]
  refine ⟨c, hc, e, ?_⟩
  rw [holds_iff] at hh ⊢
  exact ⟨fun r hr' => hr r (hh.1 r hr'), fun x hx => by rw [h c hc] at hx; simp at hx⟩
end
end Go.Proofs.YtknojjlfgjkbiaaGreatDoor
/- Reports and causes: their values, the kinds of keys that maps have here, and how slices of them read. -/
namespace Go.Proofs.YtknojjlfgjkbiaaGreatDoor
open Go.ChangeShapes Go.WideShapes Go.ChangeAt Go.RowKit Go.Deep

structure Rep where
  unit : ByteArray
  code : Int
  deriving DecidableEq
abbrev Cs := Ca ByteArray Rep
abbrev Rep.val (r : Rep) : Value := .agg #[.string r.unit, .int .i64 r.code]
def Rep.ok (r : Rep) : Prop := r.unit.size ≤ maxLen ∧ (Lit.int .i64 r.code).wf = true
theorem stringInv {v : Value} {l : Lit} (h : keyOf Tryz.prog 9 v = some l) : ∃ x : ByteArray, x.size ≤ maxLen ∧ v = .string x := by
  cases v <;> simp [keyOf, Tryz.underlying9, mapKey] at h
  exact ⟨_, h.1, rfl⟩
noncomputable def KS : MKind ByteArray where
  t := 79
  k := 9
  vl := fun s => .string s
  lit := fun s => .string s.data.toList
  good := fun s => s.size ≤ maxLen
  law := Maps.string_keyed Tryz.underlying9
  und := Tryz.underlying79
  key := fun _ h => WideMaps.keyOf_string_mk Tryz.underlying9 h
  inj := fun x y h => by injection h
  inv := fun v l h => stringInv h
theorem cells46 : Tryz.prog.cellsOf 32 = 2 := by kernel_rfl
theorem cells9 : Tryz.prog.cellsOf 9 = 1 := by kernel_rfl
theorem cells3 : Tryz.prog.cellsOf 3 = 1 := by kernel_rfl
theorem keyTypeR : Tryz.prog.keyTypeAt (Tryz.prog.types.size + 1) 32 = true := by kernel_rfl
theorem rowR : (32 : TypeId) < Tryz.prog.types.size := of_decide_eq_true (by kernel_rfl)
theorem sizeR : ∃ n, Tryz.prog.types.size + 1 = n + 2 := by
  have h : 0 < Tryz.prog.types.size := Nat.lt_of_le_of_lt (Nat.zero_le _) rowR
  generalize Tryz.prog.types.size = z at h
  exact ⟨z - 1, by omega⟩
theorem wideR : (match Tryz.prog.underlying 32 with | some (.array _ _) | some (.struct _) => true | _ => false) = true := by kernel_rfl
set_option maxRecDepth 100000 in
theorem lawR : WideMaps.KeyLaw Tryz.prog 32 := deep_law_laid laid (m := 2) (by omega) rowR (by kernel_rfl) wideR
theorem litsR (d : Nat) (r : Rep) (h : r.ok) : Tryz.prog.keyLits (d + 2) 32 [.string r.unit, .int .i64 r.code] = some [.string r.unit.data.toList, .int .i64 r.code] := by
  have h1 := h.1
  have h2 := h.2
  simp [Program.keyLits, Tryz.underlying32, Tryz.underlying9, Tryz.underlying3, cells46, cells9, cells3, h1, h2]
theorem keyR (r : Rep) (h : r.ok) : keyOf Tryz.prog 32 r.val = some (.string (keyBytes [.string r.unit.data.toList, .int .i64 r.code])) := by
  have hk : Tryz.prog.keyType 32 = true := keyTypeR
  unfold keyOf
  simp [Tryz.underlying32, hk, Value.formed, cells46, Value.cells, litsR 428 r h]
theorem two_of {cs : Array Value} (h : cs.size = 2) : ∃ a b, cs = #[a, b] := by
  obtain ⟨l⟩ := cs
  match l, h with
  | [a, b], _ => exact ⟨a, b, rfl⟩
theorem litsInv (d : Nat) (a b : Value) (ls : List Lit) (h : Tryz.prog.keyLits (d + 1) 32 [a, b] = some ls) : ∃ x : Rep, a = .string x.unit ∧ b = .int .i64 x.code := by
  unfold Program.keyLits at h
  simp only [Tryz.underlying32] at h
  cases hx : Tryz.prog.keyLits d 9 [a] with
  | none => simp [cells46, cells9, cells3, hx] at h
  | some x =>
    cases hy : Tryz.prog.keyLits d 3 [b] with
    | none => simp [cells46, cells9, cells3, hx, hy] at h
    | some y =>
      obtain ⟨s, hs, e1⟩ := keyLits_string' Tryz.underlying9 hx
      obtain ⟨n, hn, e2⟩ := keyLits_int' Tryz.underlying3 hy
      simp at hs hn
      exact ⟨⟨s, n⟩, hs, hn⟩
theorem okInv (d : Nat) (x : Rep) (ls : List Lit) (h : Tryz.prog.keyLits (d + 2) 32 [.string x.unit, .int .i64 x.code] = some ls) : x.ok := by
  by_cases h1 : x.unit.size ≤ maxLen
  · by_cases h2 : (Lit.int .i64 x.code).wf = true
    · exact ⟨h1, h2⟩
    · simp [Program.keyLits, Tryz.underlying32, Tryz.underlying9, Tryz.underlying3, cells46, cells9, cells3, h1, h2] at h
  · simp [Program.keyLits, Tryz.underlying32, Tryz.underlying9, Tryz.underlying3, cells46, cells9, cells3, h1] at h
theorem litsEx {v : Value} {l : Lit} (h : keyOf Tryz.prog 32 v = some l) : ∃ a b d ls, v = .agg #[a, b] ∧ Tryz.prog.keyLits (d + 2) 32 [a, b] = some ls := by
  unfold keyOf at h
  simp only [Tryz.underlying32] at h
  split at h
  · rename_i hc
    rw [Bool.and_eq_true] at hc
    rw [Option.map_eq_some_iff] at h
    obtain ⟨ls, hl, _⟩ := h
    obtain ⟨cs, rfl, hcs⟩ : ∃ cs : Array Value, v = .agg cs ∧ cs.size = 2 := by
      have := hc.2
      cases v <;> simp [Value.formed, Tryz.underlying32, cells46] at this
      exact ⟨_, rfl, this⟩
    obtain ⟨a, b, rfl⟩ := two_of hcs
    obtain ⟨n, hn⟩ := sizeR
    rw [hn] at hl
    exact ⟨a, b, n, ls, rfl, hl⟩
  · cases h
theorem repInv {v : Value} {l : Lit} (h : keyOf Tryz.prog 32 v = some l) : ∃ x : Rep, x.ok ∧ v = x.val := by
  obtain ⟨a, b, d, ls, rfl, hl⟩ := litsEx h
  obtain ⟨x, rfl, rfl⟩ := litsInv (d + 1) a b ls hl
  exact ⟨x, okInv d x ls hl, rfl⟩
noncomputable def KR : MKind Rep where
  t := 83
  k := 32
  vl := Rep.val
  lit := fun r => .string (keyBytes [.string r.unit.data.toList, .int .i64 r.code])
  good := Rep.ok
  law := Maps.Keyed.of_law lawR
  und := Tryz.underlying83
  key := keyR
  inj := fun x y h => by
    obtain ⟨a, b⟩ := x
    obtain ⟨c, d⟩ := y
    simp [Rep.val] at h
    rw [h.1, h.2]
  inv := fun v l h => repInv h
end Go.Proofs.YtknojjlfgjkbiaaGreatDoor
/- Slices of strings, reports and causes in memory. -/
namespace Go.Proofs.YtknojjlfgjkbiaaGreatDoor
open Go.ChangeShapes Go.WideShapes Go.ChangeAt Go.RowKit Go.Deep

/-- membership. -/
def memB {α : Type} [DecidableEq α] (x : α) (l : List α) : Bool := decide (x ∈ l)
theorem memB_iff {α : Type} [DecidableEq α] {x : α} {l : List α} : memB x l = true ↔ x ∈ l := by unfold memB; rw [decide_eq_true_eq]
theorem memB_false {α : Type} [DecidableEq α] {x : α} {l : List α} (h : x ∉ l) : memB x l = false := decide_eq_false h
theorem str_ne {x s : ByteArray} (h : x ≠ s) : (x.toList == s.toList) = false := by
  rw [beq_eq_false_iff_ne]
  intro e
  rw [ByteArray.toList_eq, ByteArray.toList_eq] at e
  exact h (ByteArray.ext (Array.toList_inj.1 e))
theorem str_eq {x s : ByteArray} (h : x = s) : (x.toList == s.toList) = true := by subst h; simp
instance : Inhabited Rep := ⟨⟨⟨#[]⟩, 0⟩⟩
/-- a slice's header. -/
structure SlV where
  a : Option Addr
  n : Nat
  c : Nat
  deriving Inhabited
abbrev SlV.val (s : SlV) : Value := .slice s.a s.n s.c
/-- a slice of strings. -/
def RdStr (w : World) (B : Nat) (A : Option Addr) (l : List ByteArray) : Prop :=
  0 < l.length → ∃ b o, A = some ⟨b, o, none⟩ ∧ b < B ∧ ∀ i (h : i < l.length), w.cell? ⟨b, o + i, none⟩ = some (.string l[i])
/-- a slice of reports. -/
def RdRep (w : World) (B : Nat) (A : Option Addr) (l : List Rep) : Prop :=
  0 < l.length → ∃ b o, A = some ⟨b, o, none⟩ ∧ b < B ∧ ∀ i (h : i < l.length), w.cell? ⟨b, o + i * 2, none⟩ = some (.string l[i].unit) ∧ w.cell? ⟨b, o + i * 2 + 1, none⟩ = some (.int .i64 l[i].code)
/-- a cause as a value: its two slices' headers. -/
structure CsV where
  c : Cs
  n : SlV
  x : SlV
abbrev CsV.val (x : CsV) : Value := .agg #[.string x.c.unit, .slice x.n.a x.n.n x.n.c, .slice x.x.a x.x.n x.x.c]
/-- its two slices read as the cause's. -/
structure CsV.rd (w : World) (B : Nat) (x : CsV) : Prop where
  nl : x.n.n = x.c.needs.length
  nc : x.n.n ≤ x.n.c
  nm : x.n.c ≤ maxLen
  n : RdRep w B x.n.a x.c.needs
  xl : x.x.n = x.c.excl.length
  xc : x.x.n ≤ x.x.c
  xm : x.x.c ≤ maxLen
  x : RdStr w B x.x.a x.c.excl
/-- a slice of causes. -/
def RdCs (w : World) (B : Nat) (A : Option Addr) (l : List CsV) : Prop :=
  0 < l.length → ∃ b o, A = some ⟨b, o, none⟩ ∧ b < B ∧ ∀ i (h : i < l.length), w.cell? ⟨b, o + i * 3, none⟩ = some (.string l[i].c.unit) ∧ w.cell? ⟨b, o + i * 3 + 1, none⟩ = some l[i].n.val ∧ w.cell? ⟨b, o + i * 3 + 2, none⟩ = some l[i].x.val ∧ l[i].rd w B
/-- the strings of a cause are such as Go's are, its numbers too. -/
structure OkC (c : Cs) : Prop where
  u : c.unit.size ≤ maxLen
  n : ∀ r ∈ c.needs, r.ok
  x : ∀ s ∈ c.excl, s.size ≤ maxLen
section
variable {w w' : World} {B B' : Nat} {A : Option Addr}
theorem RdStr.nil : RdStr w B A [] := fun h => absurd h (by simp)
theorem RdRep.nil : RdRep w B A [] := fun h => absurd h (by simp)
theorem RdCs.nil : RdCs w B A [] := fun h => absurd h (by simp)
theorem RdStr.to_ {l : List ByteArray} (h : RdStr w B A l) (hB : B ≤ B') (hk : ∀ b o, b < B → w'.cell? ⟨b, o, none⟩ = w.cell? ⟨b, o, none⟩) : RdStr w' B' A l := fun hn => by
  obtain ⟨b, o, rfl, hbB, hc⟩ := h hn
  exact ⟨b, o, rfl, by omega, fun i hi => (hk b _ hbB).trans (hc i hi)⟩
theorem RdRep.to_ {l : List Rep} (h : RdRep w B A l) (hB : B ≤ B') (hk : ∀ b o, b < B → w'.cell? ⟨b, o, none⟩ = w.cell? ⟨b, o, none⟩) : RdRep w' B' A l := fun hn => by
  obtain ⟨b, o, rfl, hbB, hc⟩ := h hn
  exact ⟨b, o, rfl, by omega, fun i hi => ⟨(hk b _ hbB).trans (hc i hi).1, (hk b _ hbB).trans (hc i hi).2⟩⟩
theorem CsV.rd.to_ {x : CsV} (h : x.rd w B) (hB : B ≤ B') (hk : ∀ b o, b < B → w'.cell? ⟨b, o, none⟩ = w.cell? ⟨b, o, none⟩) : x.rd w' B' :=
  ⟨h.nl, h.nc, h.nm, h.n.to_ hB hk, h.xl, h.xc, h.xm, h.x.to_ hB hk⟩
theorem RdCs.to_ {l : List CsV} (h : RdCs w B A l) (hB : B ≤ B') (hk : ∀ b o, b < B → w'.cell? ⟨b, o, none⟩ = w.cell? ⟨b, o, none⟩) : RdCs w' B' A l := fun hn => by
  obtain ⟨b, o, rfl, hbB, hc⟩ := h hn
  exact ⟨b, o, rfl, by omega, fun i hi => ⟨(hk b _ hbB).trans (hc i hi).1, (hk b _ hbB).trans (hc i hi).2.1, (hk b _ hbB).trans (hc i hi).2.2.1, (hc i hi).2.2.2.to_ hB hk⟩⟩
theorem bcell {B : Nat} (hb : Below B w w') : ∀ b o, b < B → w'.cell? ⟨b, o, none⟩ = w.cell? ⟨b, o, none⟩ := fun b o h => hb.cell (p := ⟨b, o, none⟩) h
theorem RdStr.below {l : List ByteArray} (h : RdStr w w.heap.size A l) (hb : Below w.heap.size w w') : RdStr w' w'.heap.size A l := h.to_ hb.size (bcell hb)
theorem RdRep.below {l : List Rep} (h : RdRep w w.heap.size A l) (hb : Below w.heap.size w w') : RdRep w' w'.heap.size A l := h.to_ hb.size (bcell hb)
theorem CsV.rd.below {x : CsV} (h : x.rd w w.heap.size) (hb : Below w.heap.size w w') : x.rd w' w'.heap.size := h.to_ hb.size (bcell hb)
theorem RdCs.below {l : List CsV} (h : RdCs w w.heap.size A l) (hb : Below w.heap.size w w') : RdCs w' w'.heap.size A l := h.to_ hb.size (bcell hb)
theorem RdStr.keep {l : List ByteArray} (h : RdStr w B A l) (hb : Below B w w') : RdStr w' B A l := h.to_ (Nat.le_refl _) (bcell hb)
theorem RdRep.keep {l : List Rep} (h : RdRep w B A l) (hb : Below B w w') : RdRep w' B A l := h.to_ (Nat.le_refl _) (bcell hb)
theorem CsV.rd.keep {x : CsV} (h : x.rd w B) (hb : Below B w w') : x.rd w' B := h.to_ (Nat.le_refl _) (bcell hb)
theorem RdCs.keep {l : List CsV} (h : RdCs w B A l) (hb : Below B w w') : RdCs w' B A l := h.to_ (Nat.le_refl _) (bcell hb)
theorem RdStr.more {l : List ByteArray} (h : RdStr w B A l) (hB : B ≤ B') : RdStr w B' A l := h.to_ hB fun _ _ _ => rfl
theorem RdRep.more {l : List Rep} (h : RdRep w B A l) (hB : B ≤ B') : RdRep w B' A l := h.to_ hB fun _ _ _ => rfl
theorem CsV.rd.more {x : CsV} (h : x.rd w B) (hB : B ≤ B') : x.rd w B' := h.to_ hB fun _ _ _ => rfl
theorem RdCs.more {l : List CsV} (h : RdCs w B A l) (hB : B ≤ B') : RdCs w B' A l := h.to_ hB fun _ _ _ => rfl
end
/-- arguments' data. -/
def Rep.g (r : Rep) : List G := [.one (.string r.unit), .one (.int .i64 r.code)]
def repG (l : List Rep) : G := .row 1 (l.map Rep.g)
def strG (l : List ByteArray) : G := .row 2 (l.map fun s => [.one (.string s)])
def CsG (c : Cs) : List G := [.one (.string c.unit), repG c.needs, strG c.excl]
def csG (l : List Cs) : G := .row 0 (l.map CsG)
def GS : Nat → List K
  | 0 => [.str, .sl 1, .sl 2]
  | 1 => [.str, .int]
  | _ => [.str]
def GN : Nat → Nat
  | 0 => reachBytes / 64
  | 1 => reachBytes / 24
  | _ => reachBytes / 16
def GT : K → TypeId
  | .int => 3
  | .byte => 5
  | .bool => 4
  | .str => 9
  | .sl 0 => 22
  | .sl 1 => 23
  | .sl _ => 24
theorem tabG : Tab Tryz.prog GS GN GT 3 where
  int := Tryz.underlying3
  byte := Tryz.underlying5
  bool := Tryz.underlying4
  str := Tryz.underlying9
  row := fun t ht => by
    match t, ht with
    | 0, _ => exact ⟨by decide, 29, Tryz.underlying22, by decide +kernel, (by intro k hk; simp [GS] at hk; rcases hk with rfl | rfl | rfl <;> simp [K.known]), .inl ⟨_, Tryz.underlying29, by kernel_rfl, by kernel_rfl, rfl⟩⟩
    | 1, _ => exact ⟨by decide, 32, Tryz.underlying23, by decide +kernel, (by intro k hk; simp [GS] at hk; rcases hk with rfl | rfl <;> simp [K.known]), .inl ⟨_, Tryz.underlying32, by kernel_rfl, by kernel_rfl, rfl⟩⟩
    | 2, _ => exact ⟨by decide, 9, Tryz.underlying24, by decide +kernel, (by intro k hk; simp [GS] at hk; subst hk; simp [K.known]), .inr ⟨.str, rfl, rfl, by kernel_rfl⟩⟩
end Go.Proofs.YtknojjlfgjkbiaaGreatDoor
