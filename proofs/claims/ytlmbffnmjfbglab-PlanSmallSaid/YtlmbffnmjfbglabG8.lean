/- Texts M1 M2 M3 F0 M4 M5, joined. -/
import Derived.Test.YtlmbffnmjfbglabG7
import Derived.Test.YtlmbffnmjfbglabG0
set_option linter.unusedSimpArgs false
set_option linter.unusedVariables false
/- The search's claims are right. -/
namespace Go.Proofs.Ytlmbffnmjfbglab

/-- claims one behind the other, from next on. -/
def okP (ps : List Part) (os : List Int) (next : Int) : List Claim → Bool
  | [] => true
  | x :: r => decide (x.frm = next) && (decide (x.frm ≤ x.to) && (decide (x.to ≤ lastP ps os.length) && (oneP ps os x && okP ps os (x.to + 1) r)))
/-- where they end. -/
def endP (next : Int) : List Claim → Int
  | [] => next
  | x :: r => endP (x.to + 1) r
theorem goP_ok (ps : List Part) (os : List Int) : ∀ (l : List Claim) (next : Int), goP ps os next l = (okP ps os next l && decide (endP next l = lastP ps os.length + 1))
  | [], next => by rw [goP, okP, endP, Bool.true_and]
  | x :: r, next => by
    rw [goP, okP, endP, goP_ok ps os r (x.to + 1)]
    simp only [Bool.and_assoc]
theorem okP_append (ps : List Part) (os : List Int) (x : Claim) : ∀ (l : List Claim) (next : Int), okP ps os next (l ++ [x]) = (okP ps os next l && (decide (x.frm = endP next l) && (decide (x.frm ≤ x.to) && (decide (x.to ≤ lastP ps os.length) && oneP ps os x))))
  | [], next => by rw [List.nil_append, okP, okP, okP, endP, Bool.true_and, Bool.and_true]
  | y :: r, next => by
    rw [List.cons_append, okP, okP, endP, okP_append ps os x r (y.to + 1)]
    simp only [Bool.and_assoc]
theorem endP_append (x : Claim) : ∀ (l : List Claim) (next : Int), endP next (l ++ [x]) = x.to + 1
  | [], _ => rfl
  | y :: r, _ => by rw [List.cons_append, endP, endP_append x r]
theorem conflP_hit {ps : List Part} {os : List Int} {o : Int} (h : ¬ conflP ps os o < 0) : ∃ j : Nat, conflP ps os o = j ∧ j < os.length ∧ clashP ps os j o = true := by
  by_cases hx : ∃ j, j < os.length ∧ clashP ps os j o = true
  · have key : ∀ n, (∃ j, j < n ∧ j < os.length ∧ clashP ps os j o = true) → ∃ j : Nat, conflP ps os o = j ∧ j < os.length ∧ clashP ps os j o = true := by
      intro n
      induction n with
      | zero => rintro ⟨j, h, _⟩; omega
      | succ n ih =>
        rintro ⟨j, h1, h2, h3⟩
        by_cases he : ∃ i, i < n ∧ i < os.length ∧ clashP ps os i o = true
        · exact ih he
        · by_cases hj : j < n
          · exact absurd ⟨j, hj, h2, h3⟩ he
          · obtain rfl : j = n := by omega
            refine ⟨j, ?_, h2, h3⟩
            unfold conflP
            refine idxI_hit (l := List.range os.length) (k := j) (by simpa using h2) (by simpa using h3) (fun i hi hij => ?_)
            have hi' : i < os.length := by simpa using hi
            have : clashP ps os i o = false := by
              cases hc : clashP ps os i o with
              | false => rfl
              | true => exact absurd ⟨i, hij, hi', hc⟩ he
            simpa using this
    obtain ⟨j, h1, h2⟩ := hx
    exact key (j + 1) ⟨j, by omega, h1, h2⟩
  · exfalso
    apply h
    have : conflP ps os o = -1 := by
      unfold conflP
      refine idxI_miss fun j hj => ?_
      have hj' : j < os.length := by simpa using hj
      have : clashP ps os j o = false := by
        cases hc : clashP ps os j o with
        | false => rfl
        | true => exact absurd ⟨j, hj', hc⟩ hx
      simpa using this
    omega
theorem allP_one {ps : List Part} {os : List Int} {j : Nat} {o : Int} (h : clashP ps os j o = true) : allP ps os j o o = true :=
  allP_yes fun x h1 h2 => by obtain rfl : x = o := by omega
                             exact h
theorem allP_get {ps : List Part} {os : List Int} {j : Nat} {f t x : Int} (h : allP ps os j f t = true) (h1 : f ≤ x) (h2 : x ≤ t) : clashP ps os j x = true := by
  cases hc : clashP ps os j x with
  | true => rfl
  | false => rw [allP_no h1 h2 hc] at h; cases h
/-- the claims about the first k offsets. -/
theorem prefR_ok {ps : List Part} {r : Nat} {os : List Int} (hlen : os.length + (r + 1) = ps.length)
    (hrec : ∀ (o : Int) t l t', tryR ps r (os ++ [o]) t = .claims l t' → rightP ps (os ++ [o]) l = true) (t : Nat) :
    ∀ (k : Nat) (cl : List Claim) (t' : Nat), (k : Int) ≤ lastP ps os.length + 1 → prefR ps (tryR ps r) os t k = .claims cl t' → okP ps os 0 cl = true ∧ endP 0 cl = k
  | 0, cl, t', _, h => by
    simp only [prefR] at h
    injection h with h _
    subst h
    exact ⟨rfl, rfl⟩
  | k + 1, cl, t', hk, h => by
    simp only [prefR] at h
    cases hp : prefR ps (tryR ps r) os t k with
    | stop a e => rw [hp] at h; cases h
    | claims cl0 t0 =>
      rw [hp] at h
      obtain ⟨ih1, ih2⟩ := prefR_ok hlen hrec t k cl0 t0 (by omega) hp
      simp only [oneR] at h
      split at h
      · cases h
      · split at h
        · split at h
          · cases h
          · rename_i sub t1 hr
            injection h with h _
            subst h
            have hsub := hrec k _ _ _ hr
            refine ⟨?_, by rw [endP_append]; simp [Claim.to]⟩
            rw [okP_append, ih1, ih2]
            simp only [Claim.frm, Claim.to, Bool.true_and, decide_true, Int.le_refl, Bool.and_eq_true, decide_eq_true_eq]
            refine ⟨decide_eq_true (by omega), ?_⟩
            rw [oneP, if_pos rfl]
            unfold rightP at hsub
            simpa using hsub
        · rename_i hc
          injection h with h _
          subst h
          obtain ⟨j, hj, hjl, hcl⟩ := conflP_hit hc
          have hnew : okP ps os 0 (cl0 ++ [.mk k k j []]) = true ∧ endP 0 (cl0 ++ [.mk (k : Int) k j []]) = ((k + 1 : Nat) : Int) := by
            refine ⟨?_, by rw [endP_append]; simp [Claim.to]⟩
            rw [okP_append, ih1, ih2]
            simp only [Claim.frm, Claim.to, Bool.true_and, decide_true, Int.le_refl, Bool.and_eq_true, decide_eq_true_eq]
            refine ⟨decide_eq_true (by omega), ?_⟩
            rw [oneP, if_neg (by omega), if_neg (by simp; omega)]
            simpa using allP_one hcl
          rw [hj]
          rcases List.eq_nil_or_concat cl0 with rfl | ⟨c1, ⟨f, to, w, s⟩, rfl⟩
          · simpa [extend] using hnew
          · rw [List.concat_eq_append] at *
            unfold extend
            simp only [List.getLast?_append, List.getLast?_singleton, Option.some_or, List.dropLast_concat]
            by_cases hw : w = (j : Int)
            · rw [if_pos hw]
              rw [okP_append] at ih1
              rw [endP_append] at ih2
              simp only [Claim.frm, Claim.to, Bool.and_eq_true, decide_eq_true_eq] at ih1 ih2
              obtain ⟨i1, i2, i3, i4, i5⟩ := ih1
              have j2 := of_decide_eq_true i2
              have j3 := of_decide_eq_true i3
              have j4 := of_decide_eq_true i4
              refine ⟨?_, by rw [endP_append]; simp [Claim.to]⟩
              rw [okP_append, i1]
              simp only [Claim.frm, Claim.to, Bool.true_and, Bool.and_eq_true, decide_eq_true_eq]
              refine ⟨i2, decide_eq_true (by omega), decide_eq_true (by omega), ?_⟩
              subst hw
              rw [oneP, if_neg (by omega)] at i5 ⊢
              split at i5
              · cases i5
              · rename_i hg
                rw [if_neg hg]
                rw [Int.toNat_natCast] at i5 ⊢
                exact allP_yes fun x h1 h2 => by
                  by_cases hx : x ≤ to
                  · exact allP_get i5 h1 hx
                  · obtain rfl : x = k := by omega
                    exact hcl
            · rw [if_neg hw]
              exact hnew
/-- THE SEARCH's CLAIMS ARE RIGHT. -/
theorem tryR_right (F : Int) (ps : List Part) (hT : timesV F ps = true) : ∀ (r : Nat) (os : List Int) (t : Nat) (l : List Claim) (t' : Nat), os.length + r = ps.length → tryR ps r os t = .claims l t' → rightP ps os l = true
  | 0, _, _, _, _, _, h => by simp [tryR] at h
  | r + 1, os, t, l, t', hlen, h => by
    have hlt : os.length < ps.length := by omega
    have hp := (timesV_ok hT).len ps[os.length] (List.getElem_mem _)
    have hla : lastP ps os.length = ps[os.length].period - ps[os.length].length := by simp [lastP, hlt]
    have hN : ((nOff ps os.length : Nat) : Int) = lastP ps os.length + 1 := by
      rw [hla]
      simp only [nOff, List.getD_eq_getElem?_getD, List.getElem?_eq_getElem hlt, Option.getD_some]
      omega
    simp only [tryR] at h
    obtain ⟨h1, h2⟩ := prefR_ok hlen (fun o t l t' hr => tryR_right F ps hT r (os ++ [o]) t l t' (by simp; omega) hr) t _ l t' (by omega) h
    unfold rightP
    rw [decide_eq_true hlt, goP_ok, h1, h2, hN]
    simp
theorem prefR_stop_e (ps : List Part) (rec : List Int → Nat → Res) (hrec : ∀ os t a e, rec os t = .stop a e → e = 0 ∨ e = 5) (os : List Int) (t : Nat) : ∀ (k : Nat) (a : List Int) (e : Int), prefR ps rec os t k = .stop a e → e = 0 ∨ e = 5
  | 0, a, e, h => by simp [prefR] at h
  | k + 1, a, e, h => by
    simp only [prefR] at h
    cases hp : prefR ps rec os t k with
    | stop a' e' =>
      rw [hp] at h
      injection h with _ h2
      subst h2
      exact prefR_stop_e ps rec hrec os t k a' _ hp
    | claims cl0 t0 =>
      rw [hp] at h
      simp only [oneR] at h
      split at h
      · injection h with _ h
        exact .inr h.symm
      · split at h
        · split at h
          · rename_i a' e' hr
            injection h with _ h2
            subst h2
            exact hrec _ _ _ _ hr
          · cases h
        · cases h
theorem stop_e (ps : List Part) : ∀ (r : Nat) (os : List Int) (t : Nat) (a : List Int) (e : Int), tryR ps r os t = .stop a e → e = 0 ∨ e = 5
  | 0, os, t, a, e, h => by
    simp only [tryR] at h
    injection h with _ h
    exact .inl h.symm
  | r + 1, os, t, a, e, h => prefR_stop_e ps (tryR ps r) (stop_e ps r) os t _ a e (by simpa only [tryR] using h)
/-- a certificate that Plan returns is accepted. -/
theorem plan_cert {F : Int} {ps : List Part} (h : (planV F ps).2.2 = 130) : checkV F ps (planV F ps).2.1 = true := by
  unfold planV at h ⊢
  split at h
  · rename_i hT
    rw [if_pos hT]
    cases hr : tryR ps ps.length [] 0 with
    | stop os e =>
      exfalso
      rw [hr] at h
      simp only at h
      have := stop_e ps _ _ _ _ _ hr
      omega
    | claims cl t =>
      rw [hr] at h
      simp only at h ⊢
      split at h
      · simp at h
      · rename_i hs
        rw [if_neg hs]
        unfold checkV
        rw [hT, tryR_right F ps hT ps.length [] 0 cl t (by simp) hr, IntWalk.i64_in (sizeL cl : Int) (by omega), decide_eq_true (show (sizeL cl : Int) ≤ 16384 by omega)]
        rfl
  · simp at h
end Go.Proofs.Ytlmbffnmjfbglab
/- Claims that are right are not right any more after a change. -/
namespace Go.Proofs.Ytlmbffnmjfbglab

theorem okP_app (ps : List Part) (os : List Int) (b : List Claim) : ∀ (a : List Claim) (next : Int), okP ps os next (a ++ b) = (okP ps os next a && okP ps os (endP next a) b)
  | [], next => by rw [List.nil_append, okP, endP, Bool.true_and]
  | x :: r, next => by
    rw [List.cons_append, okP, okP, endP, okP_app ps os b r (x.to + 1)]
    simp only [Bool.and_assoc]
theorem endP_app (b : List Claim) : ∀ (a : List Claim) (next : Int), endP next (a ++ b) = endP (endP next a) b
  | [], _ => rfl
  | x :: r, _ => by rw [List.cons_append, endP, endP, endP_app b r]
theorem okP_cons {ps : List Part} {os : List Int} {next : Int} {x : Claim} {r : List Claim} (h : okP ps os next (x :: r) = true) : x.frm = next ∧ x.frm ≤ x.to ∧ x.to ≤ lastP ps os.length ∧ oneP ps os x = true ∧ okP ps os (x.to + 1) r = true := by
  rw [okP] at h
  simp only [Bool.and_eq_true] at h
  obtain ⟨h1, h2, h3, h4, h5⟩ := h
  exact ⟨of_decide_eq_true h1, of_decide_eq_true h2, of_decide_eq_true h3, h4, h5⟩
theorem right_iff {ps : List Part} {os : List Int} {l : List Claim} : rightP ps os l = true ↔ os.length < ps.length ∧ okP ps os 0 l = true ∧ endP 0 l = lastP ps os.length + 1 := by
  unfold rightP
  rw [goP_ok]
  simp [Bool.and_eq_true]
/-- the first claim left out. -/
theorem right_tail {ps : List Part} {os : List Int} {x : Claim} {r : List Claim} (hl : 0 ≤ lastP ps os.length) (h : rightP ps os (x :: r) = true) : rightP ps os r = false := by
  obtain ⟨h1, h2, h3⟩ := right_iff.1 h
  obtain ⟨a1, a2, _, _, a5⟩ := okP_cons h2
  cases hr : rightP ps os r with
  | false => rfl
  | true =>
    obtain ⟨_, b2, b3⟩ := right_iff.1 hr
    cases r with
    | nil => simp only [endP] at b3; omega
    | cons y q =>
      have c1 := (okP_cons b2).1
      have c2 := (okP_cons a5).1
      omega
/-- the last one. -/
theorem right_init {ps : List Part} {os : List Int} {x : Claim} {r : List Claim} (h : rightP ps os (r ++ [x]) = true) : rightP ps os r = false := by
  obtain ⟨h1, h2, h3⟩ := right_iff.1 h
  rw [okP_app] at h2
  simp only [Bool.and_eq_true] at h2
  obtain ⟨a1, a2, _⟩ := okP_cons h2.2
  rw [endP_append] at h3
  cases hr : rightP ps os r with
  | false => rfl
  | true =>
    obtain ⟨_, _, b3⟩ := right_iff.1 hr
    omega
/-- a claim repeated. -/
theorem right_twice {ps : List Part} {os : List Int} {x : Claim} {a b : List Claim} (h : rightP ps os (a ++ x :: b) = true) : rightP ps os (a ++ x :: x :: b) = false := by
  obtain ⟨h1, h2, h3⟩ := right_iff.1 h
  rw [okP_app] at h2
  simp only [Bool.and_eq_true] at h2
  obtain ⟨a1, a2, _⟩ := okP_cons h2.2
  cases hr : rightP ps os (a ++ x :: x :: b) with
  | false => rfl
  | true =>
    obtain ⟨_, b2, _⟩ := right_iff.1 hr
    rw [okP_app] at b2
    simp only [Bool.and_eq_true] at b2
    obtain ⟨_, _, _, _, c5⟩ := okP_cons b2.2
    have c1 := (okP_cons c5).1
    omega
/-- the first claim begins later. -/
theorem right_late {ps : List Part} {os : List Int} {f t w f' : Int} {s : List Claim} {r : List Claim} (hf : f' ≠ 0) : rightP ps os (.mk f' t w s :: r) = false := by
  cases hr : rightP ps os (.mk f' t w s :: r) with
  | false => rfl
  | true =>
    obtain ⟨_, b2, _⟩ := right_iff.1 hr
    exact absurd (okP_cons b2).1 hf
/-- a claim names a partition that does not precede. -/
theorem right_own {ps : List Part} {a b : List Claim} {f t : Int} {s : List Claim} : rightP ps [] (a ++ .mk f t 0 s :: b) = false := by
  cases hr : rightP ps [] (a ++ .mk f t 0 s :: b) with
  | false => rfl
  | true =>
    obtain ⟨_, b2, _⟩ := right_iff.1 hr
    rw [okP_app] at b2
    simp only [Bool.and_eq_true] at b2
    obtain ⟨_, _, _, c4, _⟩ := okP_cons b2.2
    rw [oneP, if_neg (by decide), if_pos (.inr (.inl (by simp)))] at c4
    cases c4
/-- no claims are not right. -/
theorem right_nil {ps : List Part} {os : List Int} (hl : 0 ≤ lastP ps os.length) : rightP ps os [] = false := by
  cases hr : rightP ps os [] with
  | false => rfl
  | true =>
    obtain ⟨_, _, b3⟩ := right_iff.1 hr
    simp only [endP] at b3
    omega
theorem check_no {F : Int} {ps : List Part} {l : List Claim} (h : rightP ps [] l = false) : checkV F ps l = false := by simp [checkV, h]
mutual
/-- what is right for a prefix conflicts in every choice that begins with it. -/
theorem one_sound {ps : List Part} (xs : List Int) (hx : xs.length = ps.length) (hok : ∀ k, k < ps.length → 0 ≤ xs.getD k 0 ∧ xs.getD k 0 ≤ lastP ps k) (n : Nat) (hn : n < ps.length) : ∀ (c : Claim), oneP ps (xs.take n) c = true → c.frm ≤ xs.getD n 0 → xs.getD n 0 ≤ c.to → ∃ k j, k < ps.length ∧ j < k ∧ clashP ps (xs.take k) j (xs.getD k 0) = true
  | .mk f t w sub, h, h1, h2 => by
    simp only [Claim.frm, Claim.to] at h1 h2
    have htl : (xs.take n).length = n := by simp; omega
    rw [oneP] at h
    by_cases hw : w = -1
    · rw [if_pos hw] at h
      simp only [Bool.and_eq_true, decide_eq_true_eq] at h
      obtain ⟨e1, e2, e3⟩ := h
      rw [htl] at e2
      have hf : f = xs.getD n 0 := by omega
      have hts : xs.take n ++ [f] = xs.take (n + 1) := by
        rw [List.take_add_one, hf, List.getElem?_eq_getElem (show n < xs.length by omega)]
        simp [List.getD_eq_getElem?_getD, List.getElem?_eq_getElem (show n < xs.length by omega)]
      rw [hts] at e3
      exact go_sound xs hx hok (n + 1) e2 sub 0 e3 (hok (n + 1) e2).1
    · rw [if_neg hw] at h
      split at h
      · cases h
      · rename_i hg
        have hg' : ¬ w < 0 ∧ ¬ ((xs.take n).length : Int) ≤ w := ⟨fun h => hg (.inl h), fun h => hg (.inr (.inl h))⟩
        rw [htl] at hg'
        exact ⟨n, w.toNat, hn, by omega, allP_get h h1 h2⟩
theorem go_sound {ps : List Part} (xs : List Int) (hx : xs.length = ps.length) (hok : ∀ k, k < ps.length → 0 ≤ xs.getD k 0 ∧ xs.getD k 0 ≤ lastP ps k) (n : Nat) (hn : n < ps.length) : ∀ (l : List Claim) (next : Int), goP ps (xs.take n) next l = true → next ≤ xs.getD n 0 → ∃ k j, k < ps.length ∧ j < k ∧ clashP ps (xs.take k) j (xs.getD k 0) = true
  | [], next, h, h1 => by
    have htl : (xs.take n).length = n := by simp; omega
    rw [goP, htl] at h
    have := of_decide_eq_true h
    have := (hok n hn).2
    omega
  | c :: r, next, h, h1 => by
    rw [goP] at h
    simp only [Bool.and_eq_true] at h
    obtain ⟨e1, e2, e3, e4, e5⟩ := h
    have e1 := of_decide_eq_true e1
    by_cases hc : xs.getD n 0 ≤ c.to
    · exact one_sound xs hx hok n hn c e4 (by omega) hc
    · exact go_sound xs hx hok n hn r (c.to + 1) e5 (by omega)
end
/-- if Check accepts claims, every choice of possible offsets has a conflict. -/
theorem check_sound {F : Int} {ps : List Part} {l : List Claim} (h : checkV F ps l = true) (xs : List Int) (hx : xs.length = ps.length) (hok : ∀ k, k < ps.length → 0 ≤ xs.getD k 0 ∧ xs.getD k 0 ≤ lastP ps k) : ∃ k j, k < ps.length ∧ j < k ∧ clashP ps (xs.take k) j (xs.getD k 0) = true := by
  simp only [checkV, Bool.and_eq_true] at h
  have hr := h.2.2
  simp only [rightP, Bool.and_eq_true] at hr
  have h0 : 0 < ps.length := by have := of_decide_eq_true hr.1; simpa using this
  exact go_sound xs hx hok 0 h0 l 0 (by simpa using hr.2) (hok 0 h0).1
end Go.Proofs.Ytlmbffnmjfbglab
/- A plan that the search finds is a plan. -/
namespace Go.Proofs.Ytlmbffnmjfbglab

/-- offset k is possible and has no conflict with those before it. -/
def FitK (ps : List Part) (xs : List Int) (k : Nat) : Prop := 0 ≤ xs.getD k 0 ∧ xs.getD k 0 ≤ lastP ps k ∧ ∀ j, j < k → clashP ps (xs.take k) j (xs.getD k 0) = false
/-- a plan. -/
def IsPlan (ps : List Part) (xs : List Int) : Prop := xs.length = ps.length ∧ ∀ k, k < ps.length → FitK ps xs k
theorem conflP_none {ps : List Part} {os : List Int} {o : Int} (h : conflP ps os o < 0) (j : Nat) (hj : j < os.length) : clashP ps os j o = false := by
  cases hc : clashP ps os j o with
  | false => rfl
  | true =>
    exfalso
    have key : ∀ n, (∃ j, j < n ∧ j < os.length ∧ clashP ps os j o = true) → ∃ j : Nat, conflP ps os o = j := by
      intro n
      induction n with
      | zero => rintro ⟨j, h, _⟩; omega
      | succ n ih =>
        rintro ⟨j, h1, h2, h3⟩
        by_cases he : ∃ i, i < n ∧ i < os.length ∧ clashP ps os i o = true
        · exact ih he
        · by_cases hjn : j < n
          · exact absurd ⟨j, hjn, h2, h3⟩ he
          · obtain rfl : j = n := by omega
            refine ⟨j, ?_⟩
            unfold conflP
            refine idxI_hit (l := List.range os.length) (k := j) (by simpa using h2) (by simpa using h3) (fun i hi hij => ?_)
            have hi' : i < os.length := by simpa using hi
            have : clashP ps os i o = false := by
              cases hc : clashP ps os i o with
              | false => rfl
              | true => exact absurd ⟨i, hij, hi', hc⟩ he
            simpa using this
    obtain ⟨i, hi⟩ := key (j + 1) ⟨j, by omega, hj, hc⟩
    omega
theorem conflP_lt {ps : List Part} {os : List Int} {o : Int} (h : ∀ j, j < os.length → clashP ps os j o = false) : conflP ps os o < 0 := by
  have : conflP ps os o = -1 := by
    unfold conflP
    refine idxI_miss fun j hj => ?_
    have hj' : j < os.length := by simpa using hj
    simpa using h j hj'
  omega
theorem fitK_push {ps : List Part} {os : List Int} {o : Int} {k : Nat} (hk : k < os.length) (h : FitK ps os k) : FitK ps (os ++ [o]) k := by
  have h1 : (os ++ [o]).getD k 0 = os.getD k 0 := by simp [List.getD_eq_getElem?_getD, List.getElem?_append_left hk]
  have h2 : (os ++ [o]).take k = os.take k := by rw [List.take_append_of_le_length (by omega)]
  unfold FitK at h ⊢
  rw [h1, h2]
  exact h
theorem fitK_new {ps : List Part} {os : List Int} {o : Int} (h0 : 0 ≤ o) (h1 : o ≤ lastP ps os.length) (h : conflP ps os o < 0) : FitK ps (os ++ [o]) os.length := by
  have e1 : (os ++ [o]).getD os.length 0 = o := by simp [List.getD_eq_getElem?_getD]
  have e2 : (os ++ [o]).take os.length = os := by simp
  unfold FitK
  rw [e1, e2]
  exact ⟨h0, h1, fun j hj => conflP_none h j hj⟩
/-- where the search stops with a plan among the first k offsets, it was found behind one of them, and behind those before it nothing was. -/
theorem prefR_found {ps : List Part} {rec : List Int → Nat → Res} {os : List Int} {t : Nat} {a : List Int} : ∀ (k : Nat), prefR ps rec os t k = .stop a 0 → ∃ o t1, o < k ∧ conflP ps os o < 0 ∧ rec (os ++ [(o : Int)]) t1 = .stop a 0 ∧ ∀ o', o' < o → conflP ps os o' < 0 → ∃ t2 l t3, rec (os ++ [(o' : Int)]) t2 = .claims l t3
  | 0, h => by simp [prefR] at h
  | k + 1, h => by
    simp only [prefR] at h
    cases hp : prefR ps rec os t k with
    | stop a' e' =>
      rw [hp] at h
      injection h with h1 h2
      subst h1 h2
      obtain ⟨o, t1, h1, h2⟩ := prefR_found k hp
      exact ⟨o, t1, by omega, h2⟩
    | claims cl0 t0 =>
      rw [hp] at h
      simp only [oneR] at h
      split at h
      · injection h with _ h
        omega
      · split at h
        · rename_i hc
          split at h
          · rename_i a' e' hr
            injection h with h1 h2
            subst h1 h2
            exact ⟨k, _, by omega, hc, hr, fun o' ho' hc' => prefR_before k o' ho' hc' hp⟩
          · cases h
        · cases h
where
  prefR_before : ∀ (k o' : Nat), o' < k → conflP ps os o' < 0 → ∀ {cl t'}, prefR ps rec os t k = .claims cl t' → ∃ t2 l t3, rec (os ++ [(o' : Int)]) t2 = .claims l t3
    | 0, o', h, _, _, _, _ => by omega
    | k + 1, o', h, hc, cl, t', hp => by
      simp only [prefR] at hp
      cases hq : prefR ps rec os t k with
      | stop a' e' => rw [hq] at hp; cases hp
      | claims cl0 t0 =>
        by_cases e : o' < k
        · exact prefR_before k o' e hc hq
        · obtain rfl : o' = k := by omega
          rw [hq] at hp
          simp only [oneR] at hp
          split at hp
          · cases hp
          · cases hr : rec (os ++ [(o' : Int)]) (t0 + 1) with
            | claims sub t1 => exact ⟨_, _, _, hr⟩
            | stop a' e' =>
              exfalso
              rw [hr] at hp
              simp [hc] at hp
/-- A PLAN THAT THE SEARCH FINDS IS A PLAN. -/
theorem tryR_plan {ps : List Part} (hN : ∀ n, n < ps.length → ((nOff ps n : Nat) : Int) = lastP ps n + 1) : ∀ (r : Nat) (os : List Int) (t : Nat) (a : List Int), os.length + r = ps.length → (∀ k, k < os.length → FitK ps os k) → tryR ps r os t = .stop a 0 → IsPlan ps a ∧ a.take os.length = os
  | 0, os, t, a, hlen, hos, h => by
    simp only [tryR] at h
    injection h with h _
    subst h
    exact ⟨⟨by omega, fun k hk => hos k (by omega)⟩, by simp⟩
  | r + 1, os, t, a, hlen, hos, h => by
    simp only [tryR] at h
    obtain ⟨o, t1, h1, h2, h3, _⟩ := prefR_found _ h
    have hn := hN os.length (by omega)
    obtain ⟨p1, p2⟩ := tryR_plan hN r (os ++ [(o : Int)]) t1 a (by simp; omega) (fun k hk => by
      by_cases e : k < os.length
      · exact fitK_push e (hos k e)
      · obtain rfl : k = os.length := by simp at hk; omega
        exact fitK_new (by omega) (by omega) h2) h3
    refine ⟨p1, ?_⟩
    have := congrArg (List.take os.length) p2
    simpa [List.take_take] using this
end Go.Proofs.Ytlmbffnmjfbglab
/- Fits. -/
namespace Go.Proofs.Ytlmbffnmjfbglab
open Go.ChangeShapes Go.WideShapes Go.ChangeAt Go.RowKit

/-- what Fits returns. -/
def fitsV (F : Int) (ps : List Part) (os : List Int) : Bool := prefixOk F ps os && (decide (os.length = ps.length) && (List.range os.length).all fun k => decide (conflP ps (os.take k) (os.getD k 0) < 0))
theorem fitsV_no {F : Int} {ps : List Part} {os : List Int} {k : Nat} (hk : k < os.length) (h : ¬ conflP ps (os.take k) (os.getD k 0) < 0) : fitsV F ps os = false := by
  unfold fitsV
  rw [show (List.range os.length).all (fun k => decide (conflP ps (os.take k) (os.getD k 0) < 0)) = false from List.all_eq_false.2 ⟨k, by simpa using hk, by simpa using h⟩]
  simp
theorem RdInt.take {W : World} {B : Nat} {A : Option Addr} {l : List Int} {n : Nat} (h : RdInt W B A l) : RdInt W B A (l.take n) := fun hn => by
  obtain ⟨b, o, e, hb, hc⟩ := h (by simp at hn; omega)
  refine ⟨b, o, e, hb, fun i hi => ?_⟩
  rw [List.getElem_take]
  exact hc i (by simp at hi; omega)

section
attribute [-go_sem] run_sliceAt_slice
set_option maxRecDepth 100000 in
set_option maxHeartbeats 4000000 in
theorem fits_c (name : ByteArray) (mem F : Int) (ps : List Part) (A : Option Addr) (c : Nat) (os : List Int) (Ao : Option Addr) (co : Nat) (w : World) (h : RdPart w w.heap.size A ps) (ho : RdInt w w.heap.size Ao os) (hcap : os.length ≤ co) (hl : ps.length * 8 ≤ 140737488355328) (hlo : os.length ≤ 9223372036854775807) :
    Calls Try.prog 27 #[.agg #[.string name, .int .i64 mem, .int .i64 F, .slice A ps.length c], .slice Ao os.length co] w fun e w' => e = .returned (.bool (fitsV F ps os)) ∧ Below w.heap.size w w' := by
  have H := Lib.hid h
  have HO := Lib.hid ho
  clear h ho
  go_enter Try.func27, Try.ntmps27
  go_wp2_with fail
  refine nameC fun W1 hW1 => ?_
  have hB1 : Below w.heap.size w W1 := by subst hW1; exact (Below.refl _ w).alloc (Nat.le_refl _) _
  have hb1 : Blk W1 w.heap.size 24 #[.string name, .int .i64 mem, .int .i64 F, .slice A ps.length c] := by subst hW1; exact Blk.new w 24 _
  clear hW1
  refine (prefix_c name mem F ps A c os Ao co W1 (H.out.below hB1) (HO.out.below hB1) hcap hl hlo).mono ?_
  rintro e W2 ⟨Bs, rfl, hBs, hSB, hb2⟩
  have hB2 := hB1.trans (hb2.mono hB1.size)
  have hb := hb1.below hb2 hb1.lt
  have q3 : W2.cell? ⟨w.heap.size, 3, none⟩ = some (.slice A ps.length c) := hb.cell 3
  have hBsw : w.heap.size < Bs := Nat.lt_of_lt_of_le hb1.lt hBs
  clear hB1 hb1 hb2 hb hBs
  cases hp : prefixOk F ps os with
  | false =>
    have Hv := Lib.hid (show fitsV F ps os = false by simp [fitsV, hp])
    clear hp hSB
    go_wp2_with fail
    go_ret
    exact ⟨ret_bool Hv.out.symm, hB2⟩
  | true =>
    by_cases hn : os.length = ps.length
    · have hne : ((os.length : Int) != (ps.length : Int)) = false := by simp [hn]
      have hps : ps.length ≤ 6 := by
        simp only [prefixOk, Bool.and_eq_true] at hp
        exact (timesV_ok hp.2.1).few
      have Hp := Lib.hid hp
      have Hn := Lib.hid hn
      have hSA : ∃ Ao' os' co', SB W2 Bs name mem F A ps c Ao' os' co' 0 := ⟨_, _, _, hSB⟩
      clear hp hn hSB
      go_wp2_with fail
      go_loopw [27] (fun i wr => ∃ k : Nat, k ≤ os.length ∧ i = .int .i64 k ∧ Below w.heap.size w wr ∧ Hid (∃ Ao' os' co', SB wr Bs name mem F A ps c Ao' os' co' 0) ∧ Hid (∀ j, j < k → conflP ps (os.take j) (os.getD j 0) < 0)) (fun i _ => os.length - (intOf i).toNat)
      case atStart => exact ⟨0, Nat.zero_le _, rfl, hB2, hSA, fun j h => absurd h (by omega)⟩
      case round =>
        clear hB2 hSA
        obtain ⟨k, hk, rfl, hBr, hSA, hall⟩ := hrel
        by_cases hlt : k < os.length
        · have hO := HO.out.below hBr
          obtain ⟨b, o, rfl, hb, hcc⟩ := hO (by omega)
          have c0 := hcc k hlt
          obtain ⟨A', os', co', hSB⟩ := hSA.out
          have hq4 : wr.cell? ⟨Bs, 4, none⟩ = some (.slice A' os'.length co') := hSB.blk.cell 4
          have hf4 := hSB.blk.frozen 4
          have hi0 : (0 : Int) ≤ (k : Int) := by omega
          have hi1 : (k : Int) < (os.length : Int) := by omega
          have htl : (os.take k).length = k := by simp; omega
          have hst := hSB.setOff (os' := os.take k) (Ao' := some ⟨b, o, none⟩) (co' := co) hO.take (fun b' o' e hn => by
            obtain ⟨b2, o2, e2, hb2, _⟩ := HO.out (by omega)
            cases e2
            cases e
            omega) (by omega)
          rw [htl] at hst
          have hcf := conflict_m hst (by have := Hn.out; omega) hps os[k]
          have hgd : os.getD k 0 = os[k] := by simp [hlt]
          have hB9 : Below w.heap.size w (wr.setCell ⟨Bs, 4, none⟩ (.slice (some ⟨b, o, none⟩) k co)) := ((Gr.of_below (X := fun b => w.heap.size ≤ b) hBr).trans (Gr.setCell wr ⟨Bs, 4, none⟩ (.slice (some ⟨b, o, none⟩) k co) (show w.heap.size ≤ Bs from Nat.le_of_lt hBsw))).below0 fun k hk x => by omega
          have hsl := fun W => slice_to (some ⟨b, o, none⟩) os.length k co (by omega) W
          have hno : ¬ conflP ps (os.take k) os[k] < 0 → fitsV F ps os = false := fun hq => fitsV_no hlt (by rw [hgd]; exact hq)
          have hnx : conflP ps (os.take k) os[k] < 0 → (∀ j, j < k + 1 → conflP ps (os.take j) (os.getD j 0) < 0) := fun hq j hj => by
            by_cases e : j = k
            · subst e; rw [hgd]; exact hq
            · exact hall.out j (by omega)
          have HS9 := Lib.hid hst
          have HNo := Lib.hid hno
          have HNx := Lib.hid hnx
          clear hcc hO hSB hgd hno hnx hall hSA htl hst hb
          generalize conflP ps (os.take k) os[k] = y at *
          generalize os[k] = v at *
          go_wp2_with fail
          refine hcf.mono ?_
          rintro e w4 ⟨rfl, hb4⟩
          have hB10 := hB9.trans (hb4.mono hB9.size)
          have hS10 := HS9.out.next hb4
          clear hcf hq4 hf4 hb4 hB9 c0 hsl hBr HS9
          by_cases hy : y < 0
          · have hyd : decide (y ≥ 0) = false := decide_eq_false (by omega)
            have hyd2 : ¬ 0 ≤ y := by omega
            have Hx := Lib.hid (HNx.out hy)
            have HS := Lib.hid (show ∃ Ao' os' co', SB w4 Bs name mem F A ps c Ao' os' co' 0 from ⟨_, _, _, hS10⟩)
            clear HNx HNo hy hS10
            go_wp2_with fail
            go_roundw
            case rel => exact ⟨k + 1, by omega, by go_num, hB10, HS.out, Hx.out⟩
            case measure => simp [intOf]; omega
          · have hyd : decide (y ≥ 0) = true := decide_eq_true (by omega)
            have hyd2 : 0 ≤ y := by omega
            have Hv := Lib.hid (HNo.out (by omega))
            clear HNx HNo hy hS10
            go_wp2_with fail
            go_ret
            exact ⟨ret_bool Hv.out.symm, hB10⟩
        · have Hv := Lib.hid (show fitsV F ps os = true by
            unfold fitsV
            rw [Hp.out, decide_eq_true Hn.out]
            simp only [Bool.true_and, List.all_eq_true, List.mem_range, decide_eq_true_eq]
            exact fun j hj => hall.out j (by omega))
          clear hall hSA
          go_wp2_with fail
          go_ret
          exact ⟨ret_bool Hv.out.symm, hBr⟩
    · have hne : ((os.length : Int) != (ps.length : Int)) = true := by simp; omega
      have Hv := Lib.hid (show fitsV F ps os = false by simp [fitsV, hn])
      clear hp hSB hn
      go_wp2_with fail
      go_ret
      exact ⟨ret_bool Hv.out.symm, hB2⟩
end
end Go.Proofs.Ytlmbffnmjfbglab
/- The plan that the search finds is the first; where it finds none there is none. -/
namespace Go.Proofs.Ytlmbffnmjfbglab

/-- not behind, in the order of choices. -/
def LexLe (a xs : List Int) : Prop := a = xs ∨ ∃ k, k < a.length ∧ a.take k = xs.take k ∧ a.getD k 0 < xs.getD k 0
theorem plan_no_clash {ps : List Part} {xs : List Int} (h : IsPlan ps xs) : ¬ ∃ k j, k < ps.length ∧ j < k ∧ clashP ps (xs.take k) j (xs.getD k 0) = true := fun ⟨k, j, hk, hj, hc⟩ => by
  rw [(h.2 k hk).2.2 j hj] at hc
  cases hc
/-- claims are found: no plan begins so. -/
theorem tryR_none {F : Int} {ps : List Part} (hT : timesV F ps = true) {r : Nat} {os : List Int} {t : Nat} {l : List Claim} {t' : Nat} (hlen : os.length + r = ps.length) (h : tryR ps r os t = .claims l t') (xs : List Int) (hx : IsPlan ps xs) (ht : xs.take os.length = os) : False := by
  have hr := tryR_right F ps hT r os t l t' hlen h
  simp only [rightP, Bool.and_eq_true] at hr
  have hn := of_decide_eq_true hr.1
  have hg := hr.2
  rw [← ht] at hg
  have htl : (xs.take os.length).length = os.length := by have := hx.1; simp; omega
  exact plan_no_clash hx (go_sound xs hx.1 (fun k hk => ⟨(hx.2 k hk).1, (hx.2 k hk).2.1⟩) os.length hn l 0 hg (hx.2 os.length hn).1)
/-- THE SEARCH's PLAN IS THE FIRST. -/
theorem tryR_first {F : Int} {ps : List Part} (hT : timesV F ps = true) (hN : ∀ n, n < ps.length → ((nOff ps n : Nat) : Int) = lastP ps n + 1) : ∀ (r : Nat) (os : List Int) (t : Nat) (a : List Int), os.length + r = ps.length → (∀ k, k < os.length → FitK ps os k) → tryR ps r os t = .stop a 0 → ∀ xs, IsPlan ps xs → xs.take os.length = os → LexLe a xs
  | 0, os, t, a, hlen, hos, h, xs, hx, ht => by
    simp only [tryR] at h
    injection h with h _
    subst h
    left
    rw [← ht, List.take_of_length_le (by have := hx.1; omega)]
  | r + 1, os, t, a, hlen, hos, h, xs, hx, ht => by
    have hpl := tryR_plan hN (r + 1) os t a hlen hos h
    simp only [tryR] at h
    obtain ⟨o, t1, h1, h2, h3, h4⟩ := prefR_found _ h
    have hn := hN os.length (by omega)
    have hos' : ∀ o : Nat, (o : Int) ≤ lastP ps os.length → conflP ps os o < 0 → ∀ k, k < (os ++ [(o : Int)]).length → FitK ps (os ++ [(o : Int)]) k := fun o ho hc k hk => by
      by_cases e : k < os.length
      · exact fitK_push e (hos k e)
      · obtain rfl : k = os.length := by simp at hk; omega
        exact fitK_new (by omega) ho hc
    have hp := tryR_plan hN r (os ++ [(o : Int)]) t1 a (by simp; omega) (hos' o (by omega) h2) h3
    obtain ⟨x0, x1, x2⟩ := hx.2 os.length (by omega)
    rw [ht] at x2
    have hxl := hx.1
    obtain ⟨v, hv⟩ : ∃ v : Nat, xs.getD os.length 0 = v := ⟨(xs.getD os.length 0).toNat, by omega⟩
    have htv : xs.take (os ++ [(v : Int)]).length = os ++ [(v : Int)] := by
      rw [show (os ++ [(v : Int)]).length = os.length + 1 by simp, List.take_add_one, ht, ← hv]
      congr 1
      simp [List.getD_eq_getElem?_getD, List.getElem?_eq_getElem (show os.length < xs.length by omega)]
    have hcv : conflP ps os v < 0 := by rw [← hv]; exact conflP_lt x2
    rcases Nat.lt_trichotomy v o with hlt | heq | hgt
    · exfalso
      obtain ⟨t2, l, t3, hr⟩ := h4 v hlt hcv
      exact tryR_none hT (by simp; omega) hr xs hx htv
    · subst heq
      exact tryR_first hT hN r (os ++ [(v : Int)]) t1 a (by simp; omega) (hos' v (by omega) h2) h3 xs hx htv
    · right
      have hal := hp.1.1
      refine ⟨os.length, by omega, by rw [hpl.2, ht], ?_⟩
      have h5 := congrArg (fun l => l.getD os.length 0) hp.2
      simp only [List.getD_eq_getElem?_getD, List.length_append, List.length_cons, List.length_nil, Nat.zero_add, List.getElem?_take, show os.length < os.length + 1 by omega, if_true, List.getElem?_append_right (Nat.le_refl os.length), Nat.sub_self, List.getElem?_cons_zero, Option.getD_some] at h5
      rw [hv]
      simp only [List.getD_eq_getElem?_getD]
      rw [h5]
      omega
theorem nOff_eq {F : Int} {ps : List Part} (hT : timesV F ps = true) (n : Nat) (hn : n < ps.length) : ((nOff ps n : Nat) : Int) = lastP ps n + 1 := by
  have hp := (timesV_ok hT).len ps[n] (List.getElem_mem _)
  simp only [nOff, lastP, List.getD_eq_getElem?_getD, List.getElem?_eq_getElem hn, Option.getD_some]
  omega
theorem prefR_five (ps : List Part) (rec : List Int → Nat → Res) (hrec : ∀ os t a, rec os t = .stop a 5 → a = []) (os : List Int) (t : Nat) : ∀ (k : Nat) (a : List Int), prefR ps rec os t k = .stop a 5 → a = []
  | 0, a, h => by simp [prefR] at h
  | k + 1, a, h => by
    simp only [prefR] at h
    cases hp : prefR ps rec os t k with
    | stop a' e' =>
      rw [hp] at h
      injection h with h1 h2
      subst h1 h2
      exact prefR_five ps rec hrec os t k _ hp
    | claims cl0 t0 =>
      rw [hp] at h
      simp only [oneR] at h
      split at h
      · injection h with h _
        exact h.symm
      · split at h
        · split at h
          · rename_i a' e' hr
            injection h with h1 h2
            subst h1 h2
            exact hrec _ _ _ hr
          · cases h
        · cases h
theorem stop_five (ps : List Part) : ∀ (r : Nat) (os : List Int) (t : Nat) (a : List Int), tryR ps r os t = .stop a 5 → a = []
  | 0, os, t, a, h => by
    simp only [tryR] at h
    injection h with _ h
    omega
  | r + 1, os, t, a, h => prefR_five ps (tryR ps r) (stop_five ps r) os t _ a (by simpa only [tryR] using h)
/-- what Plan's answers mean. -/
theorem planV_cases {F : Int} {ps : List Part} (hT : timesV F ps = true) :
    (∃ os, planV F ps = (os, [], 0) ∧ IsPlan ps os ∧ ∀ xs, IsPlan ps xs → LexLe os xs) ∨
    ((planV F ps).2.2 = 5 ∧ (planV F ps).1 = [] ∧ (planV F ps).2.1 = []) ∨
    ((planV F ps).2.2 = 130 ∧ (planV F ps).1 = [] ∧ checkV F ps (planV F ps).2.1 = true ∧ ∀ xs, ¬ IsPlan ps xs) := by
  cases hr : tryR ps ps.length [] 0 with
  | stop os e =>
    rcases stop_e ps _ _ _ _ _ hr with rfl | rfl
    · left
      have hv : planV F ps = (os, [], 0) := by simp [planV, hT, hr]
      exact ⟨os, hv, (tryR_plan (nOff_eq hT) _ [] 0 os (by simp) (fun k hk => by simp at hk) hr).1, fun xs hx => tryR_first hT (nOff_eq hT) _ [] 0 os (by simp) (fun k hk => by simp at hk) hr xs hx (by simp)⟩
    · right; left
      have ha := stop_five ps _ _ _ _ hr
      subst ha
      have hv : planV F ps = ([], [], 5) := by simp [planV, hT, hr]
      rw [hv]
      exact ⟨rfl, rfl, rfl⟩
  | claims cl t =>
    by_cases hs : 16384 < sizeL cl
    · right; left
      have hv : planV F ps = ([], [], 5) := by simp [planV, hT, hr, hs]
      rw [hv]
      exact ⟨rfl, rfl, rfl⟩
    · right; right
      have hv : planV F ps = ([], cl, 130) := by simp [planV, hT, hr, hs]
      have hc := plan_cert (F := F) (ps := ps) (by rw [hv])
      rw [hv] at hc ⊢
      exact ⟨rfl, rfl, hc, fun xs hx => tryR_none hT (by simp) hr xs hx (by simp)⟩
end Go.Proofs.Ytlmbffnmjfbglab
/- Fits and clash say whether offsets are a plan. -/
namespace Go.Proofs.Ytlmbffnmjfbglab

theorem fits_iff {F : Int} {ps : List Part} (hT : timesV F ps = true) (xs : List Int) : fitsV F ps xs = true ↔ IsPlan ps xs := by
  simp only [fitsV, prefixOk, hT, Bool.true_and, Bool.and_eq_true, List.all_eq_true, List.mem_range, decide_eq_true_eq, offOk]
  constructor
  · rintro ⟨⟨_, h2⟩, h3, h4⟩
    refine ⟨h3, fun k hk => ⟨(h2 k (by omega)).1, (h2 k (by omega)).2, fun j hj => ?_⟩⟩
    exact conflP_none (h4 k (by omega)) j (by simp; omega)
  · rintro ⟨h1, h2⟩
    refine ⟨⟨by omega, fun k hk => ⟨(h2 k (by omega)).1, (h2 k (by omega)).2.1⟩⟩, h1, fun k hk => ?_⟩
    exact conflP_lt fun j hj => (h2 k (by omega)).2.2 j (by simp at hj; omega)

theorem zip_slot {ps : List Part} {xs : List Int} (hx : xs.length = ps.length) (k : Nat) (hk : k < (zipS xs ps).length) : (zipS xs ps)[k] = pslot ps k (xs.getD k 0) ∧ k < ps.length := by
  have hk2 : k < ps.length := by simp [zipS] at hk; omega
  refine ⟨?_, hk2⟩
  rw [zipS_get _ _ k hk (by omega) hk2]
  simp [pslot, List.getD_eq_getElem?_getD, List.getElem?_eq_getElem (show k < xs.length by omega), List.getElem?_eq_getElem hk2]
/-- possible offsets are valid slots. -/
theorem slots_valid {F : Int} {ps : List Part} (hT : timesV F ps = true) {xs : List Int} (hx : xs.length = ps.length) (hok : ∀ k, k < ps.length → 0 ≤ xs.getD k 0 ∧ xs.getD k 0 ≤ lastP ps k) :
    slotsV F ps xs = (zipS xs ps, 0) ∧ ∀ k, k < ps.length → validS (pslot ps k (xs.getD k 0)) = true := by
  have hv : ∀ k, k < ps.length → validS (pslot ps k (xs.getD k 0)) = true := fun k hk => by
    have hp := (timesV_ok hT).per ps[k] (List.getElem_mem _)
    have hl := (timesV_ok hT).len ps[k] (List.getElem_mem _)
    obtain ⟨h1, h2⟩ := hok k hk
    have hlp : lastP ps k = ps[k].period - ps[k].length := by simp [lastP, hk]
    rw [hlp] at h2
    simp only [validS, Slot.ok, pslot, List.getD_eq_getElem?_getD, List.getElem?_eq_getElem hk, Option.getD_some, decide_eq_true_eq] at h1 h2 ⊢
    omega
  refine ⟨?_, hv⟩
  unfold slotsV
  rw [hT, decide_eq_true hx, Bool.true_and, if_pos rfl, if_neg]
  rw [Bool.not_eq_true, List.any_eq_false]
  intro s hs
  obtain ⟨k, hk, rfl⟩ := List.getElem_of_mem hs
  obtain ⟨e, hk2⟩ := zip_slot hx k hk
  rw [e, hv k hk2]
  simp
/-- the table's error says whether two slots are not disjoint. -/
theorem clash_iff {F : Int} {ps : List Part} (hT : timesV F ps = true) {xs : List Int} (hx : xs.length = ps.length) (hok : ∀ k, k < ps.length → 0 ≤ xs.getD k 0 ∧ xs.getD k 0 ≤ lastP ps k) {q : List Win × Int} (hq : TableV F ps xs q) :
    q.2 ≠ 120 ↔ IsPlan ps xs := by
  obtain ⟨hs, hv⟩ := slots_valid hT hx hok
  have hzl : (zipS xs ps).length = ps.length := by simp [zipS, hx]
  have hnc : NoClash (zipS xs ps) ↔ IsPlan ps xs := by
    constructor
    · intro h
      refine ⟨hx, fun k hk => ⟨(hok k hk).1, (hok k hk).2, fun j hj => ?_⟩⟩
      have := h k j hj (by omega)
      rw [(zip_slot hx j (by omega)).1, (zip_slot hx k (by omega)).1] at this
      have htl : (xs.take k).length = k := by simp; omega
      have hgj : (xs.take k).getD j 0 = xs.getD j 0 := by simp [List.getD_eq_getElem?_getD, List.getElem?_take, hj]
      unfold clashP disjB
      rw [htl, hgj, hv j (by omega), hv k hk, this]
      rfl
    · intro h k j hj hk
      have hk' : k < ps.length := by omega
      rw [(zip_slot hx j (by omega)).1, (zip_slot hx k (by omega)).1]
      have := (h.2 k hk').2.2 j hj
      have htl : (xs.take k).length = k := by simp; omega
      have hgj : (xs.take k).getD j 0 = xs.getD j 0 := by simp [List.getD_eq_getElem?_getD, List.getElem?_take, hj]
      unfold clashP disjB at this
      rw [htl, hgj, hv j (by omega), hv k hk'] at this
      generalize apartB (pslot ps j (xs.getD j 0)) (pslot ps k (xs.getD k 0)) = b at *
      cases b
      · cases this
      · rfl
  unfold TableV at hq
  rw [hs] at hq
  simp only at hq
  rw [← hnc]
  rcases hq with ⟨h1, _⟩ | ⟨_, h2, h3⟩ | ⟨_, h2, h3, _⟩
  · exact absurd rfl h1
  · rw [h3]
    exact ⟨fun h => absurd rfl h, fun h => absurd h h2⟩
  · exact ⟨fun _ => h2, fun _ => by omega⟩
end Go.Proofs.Ytlmbffnmjfbglab
