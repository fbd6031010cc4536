/- Equality of ints and of claims: SameInts, SameClaims, SameClaim. -/
import Derived.Test.YtlmbffnmjfbglabU0
set_option linter.unusedSimpArgs false
set_option linter.unusedVariables false
namespace Go.Proofs.Ytlmbffnmjfbglab
open Go.ChangeShapes Go.WideShapes Go.ChangeAt Go.RowKit

mutual
def Claim.eqB : Claim → Claim → Bool | .mk f t w s, .mk f' t' w' s' => f == f' && (t == t' && (w == w' && eqL s s'))
def eqL : List Claim → List Claim → Bool
  | [], [] => true
  | x :: r, y :: q => x.eqB y && eqL r q
  | _, _ => false
end
mutual
theorem Claim.eqB_iff : ∀ (x y : Claim), x.eqB y = true ↔ x = y
  | .mk f t w s, .mk f' t' w' s' => by simp [Claim.eqB, eqL_iff s s']
theorem eqL_iff : ∀ (l m : List Claim), eqL l m = true ↔ l = m
  | [], [] => by simp [eqL]
  | [], _ :: _ => by simp [eqL]
  | _ :: _, [] => by simp [eqL]
  | x :: r, y :: q => by simp [eqL, Claim.eqB_iff x y, eqL_iff r q]
end
theorem eqL_no {l m : List Claim} {k : Nat} {hk : k < l.length} {hk' : k < m.length} (h : l[k].eqB m[k] = false) : eqL l m = false := by
  cases e : eqL l m with
  | false => rfl
  | true => rw [eqL_iff] at e; subst e; rw [(Claim.eqB_iff _ _).2 rfl] at h; cases h
theorem eqL_yes {l m : List Claim} (hlm : l.length = m.length) (h : ∀ j (h : j < l.length) (h' : j < m.length), l[j].eqB m[j] = true) : eqL l m = true := by
  rw [eqL_iff]
  exact List.ext_getElem hlm fun i h1 h2 => (Claim.eqB_iff _ _).1 (h i h1 h2)

set_option maxRecDepth 100000 in
set_option maxHeartbeats 2000000 in
theorem sameInts_c (l m : List Int) (A A' : Option Addr) (c c' : Nat) (w : World) (h : RdInt w w.heap.size A l) (h' : RdInt w w.heap.size A' m) (hl : l.length ≤ 9223372036854775807) (hm : m.length ≤ 9223372036854775807) :
    Calls Try.prog 30 #[.slice A l.length c, .slice A' m.length c'] w fun e w' => e = .returned (.bool (decide (l = m))) ∧ Below w.heap.size w w' := by
  by_cases hlm : l.length = m.length
  · have hne : ((l.length : Int) != (m.length : Int)) = false := by simp [hlm]
    have Hlm := Lib.hid hlm
    clear hlm
    go_enter Try.func30, Try.ntmps30
    go_wp2
    go_loopw [5] (fun i wr => ∃ k : Nat, k ≤ l.length ∧ i = .int .i64 k ∧ Below w.heap.size w wr ∧ Hid (∀ j (h : j < l.length) (h' : j < m.length), j < k → l[j] = m[j])) (fun i _ => l.length - (intOf i).toNat)
    case atStart => exact ⟨0, Nat.zero_le _, rfl, Below.refl _ _, fun j _ _ h => absurd h (by omega)⟩
    case round =>
      obtain ⟨k, hk, rfl, hB, hall⟩ := hrel
      by_cases hlt : k < l.length
      · have hltm : k < m.length := by have := Hlm.out; omega
        obtain ⟨b, o, rfl, hb, hc⟩ := h.below hB (by omega)
        have c0 := hc k hlt
        obtain ⟨b', o', rfl, hb', hc'⟩ := h'.below hB (by omega)
        have d0 := hc' k hltm
        clear hc h hc' h'
        have hi0 : (0 : Int) ≤ (k : Int) := by omega
        have hi1 : (k : Int) < (l.length : Int) := by omega
        have hi2 : (k : Int) < (m.length : Int) := by omega
        by_cases hq : l[k] = m[k]
        · have Hnext : Hid (∀ j (h : j < l.length) (h' : j < m.length), j < k + 1 → l[j] = m[j]) := fun j hj hj' hjk => by
            by_cases e : j = k
            · subst e; exact hq
            · exact hall.out j hj hj' (by omega)
          have hqd : (l[k] != m[k]) = false := by simp [hq]
          clear hall hq
          generalize l[k] = r at c0 hqd
          generalize m[k] = s at d0 hqd
          go_wp2
          go_quiet (fail)
          go_wp2
          go_roundw
          case rel => exact ⟨k + 1, by omega, by go_num, below_drewN hB _, Hnext⟩
          case measure => simp [intOf]; omega
        · have Hno := Lib.hid (show decide (l = m) = false from decide_eq_false fun e => hq (by subst e; rfl))
          have hqd : (l[k] != m[k]) = true := by simp [hq]
          clear hall hq
          generalize l[k] = r at c0 hqd
          generalize m[k] = s at d0 hqd
          go_wp2
          go_quiet (fail)
          go_wp2
          go_ret
          exact ⟨ret_bool Hno.out.symm, below_drewN hB _⟩
      · have Hyes := Lib.hid (show decide (l = m) = true from decide_eq_true (List.ext_getElem Hlm.out fun j hj hj' => hall.out j hj hj' (by omega)))
        clear hall
        go_wp2
        go_ret
        exact ⟨ret_bool Hyes.out.symm, hB⟩
  · have hne : ((l.length : Int) != (m.length : Int)) = true := by simp; omega
    have Hno : Hid (decide (l = m) = false) := decide_eq_false fun e => hlm (by rw [e])
    clear hlm
    go_enter Try.func30, Try.ntmps30
    go_wp2
    go_ret
    exact ⟨ret_bool Hno.out.symm, Below.refl _ _⟩

set_option maxRecDepth 100000 in
set_option maxHeartbeats 2000000 in
theorem sameClaim_c (f t wi f' t' wi' : Int) (s s' : List Claim) (A A' : Option Addr) (c c' : Nat) (w : World)
    (ih : ∀ W, Below w.heap.size w W → Calls Try.prog 31 #[.slice A s.length c, .slice A' s'.length c'] W fun e W' => e = .returned (.bool (eqL s s')) ∧ Below W.heap.size W W') :
    Calls Try.prog 58 #[.agg #[.int .i64 f, .int .i64 t, .int .i64 wi, .slice A s.length c], .agg #[.int .i64 f', .int .i64 t', .int .i64 wi', .slice A' s'.length c']] w fun e w' => e = .returned (.bool (f == f' && (t == t' && (wi == wi' && eqL s s')))) ∧ Below w.heap.size w w' := by
  obtain ⟨W1, hW1⟩ : ∃ W1, W1 = (w.alloc (.cells #[.int .i64 f, .int .i64 t, .int .i64 wi, .slice A s.length c] 35)).alloc (.cells #[.int .i64 f', .int .i64 t', .int .i64 wi', .slice A' s'.length c'] 35) := ⟨_, rfl⟩
  have hB : Below w.heap.size w W1 := by rw [hW1]; exact ((Below.refl _ w).alloc (Nat.le_refl _) _).alloc (by simp) _
  have hih := ih W1 hB
  have HB := Lib.hid hB
  clear ih hB
  rw [hW1] at hih
  generalize eqL s s' = q at *
  cases h1 : f == f' with
  | false =>
    go_enter Try.func58, Try.ntmps58
    go_wp2_with fail
    go_ret
    exact ⟨rfl, hW1 ▸ HB.out⟩
  | true =>
    cases h2 : t == t' with
    | false =>
      go_enter Try.func58, Try.ntmps58
      go_wp2_with fail
      go_ret
      exact ⟨rfl, hW1 ▸ HB.out⟩
    | true =>
      cases h3 : wi == wi' with
      | false =>
        go_enter Try.func58, Try.ntmps58
        go_wp2_with fail
        go_ret
        exact ⟨rfl, hW1 ▸ HB.out⟩
      | true =>
        go_enter Try.func58, Try.ntmps58
        go_wp2_with fail
        refine hih.mono ?_
        rintro e w2 ⟨rfl, hb⟩
        rw [← hW1] at hb
        have hB2 := HB.out.trans (hb.mono HB.out.size)
        clear hih hW1 hb
        go_wp2_with fail
        go_ret
        exact ⟨by simp, hB2⟩

/-- claims of blocks that a claim's cells name. -/
theorem RdC.open' {w : World} {Q : Nat → Prop} {b o : Nat} {x : Claim} (h : RdC w Q b o x) : w.cell? ⟨b, o, none⟩ = some (.int .i64 x.frm) ∧ w.cell? ⟨b, o + 1, none⟩ = some (.int .i64 x.to) ∧ w.cell? ⟨b, o + 2, none⟩ = some (.int .i64 x.wth) ∧
    ∃ A c, w.cell? ⟨b, o + 3, none⟩ = some (.slice A x.sub.length c) ∧ x.sub.length ≤ c ∧ c ≤ maxLen ∧ RdCls w Q A x.sub := by
  cases x with
  | mk f t wi sub => simp only [RdC] at h; exact h
theorem Claim.eqB_eq (x y : Claim) : x.eqB y = (x.frm == y.frm && (x.to == y.to && (x.wth == y.wth && eqL x.sub y.sub))) := by cases x; cases y; rfl

set_option maxRecDepth 100000 in
set_option maxHeartbeats 2000000 in
theorem sameClaims_c : ∀ (N : Nat) (l m : List Claim), sizeL l < N → ∀ (A A' : Option Addr) (c c' : Nat) (w : World), RdK w A l → RdK w A' m → l.length ≤ 9223372036854775807 → m.length ≤ 9223372036854775807 →
    Calls Try.prog 31 #[.slice A l.length c, .slice A' m.length c'] w fun e w' => e = .returned (.bool (eqL l m)) ∧ Below w.heap.size w w' := by
  intro N
  induction N with
  | zero => intro l m hl; omega
  | succ N ih =>
    intro l m hN A A' c c' w h h' hl hm
    have IH := Lib.hid ih
    clear ih
    by_cases hlm : l.length = m.length
    · have hne : ((l.length : Int) != (m.length : Int)) = false := by simp [hlm]
      have Hlm := Lib.hid hlm
      clear hlm
      go_enter Try.func31, Try.ntmps31
      go_wp2
      go_loopw [5] (fun i wr => ∃ k : Nat, k ≤ l.length ∧ i = .int .i64 k ∧ Below w.heap.size w wr ∧ Hid (∀ j (h : j < l.length) (h' : j < m.length), j < k → l[j].eqB m[j] = true)) (fun i _ => l.length - (intOf i).toNat)
      case atStart => exact ⟨0, Nat.zero_le _, rfl, Below.refl _ _, fun j _ _ h => absurd h (by omega)⟩
      case round =>
        obtain ⟨k, hk, rfl, hB, hall⟩ := hrel
        by_cases hlt : k < l.length
        · have hltm : k < m.length := by have := Hlm.out; omega
          obtain ⟨b, o, rfl, hb, hc⟩ := RdK.keep' hB h (by omega)
          obtain ⟨c0, c1, c2, As, cs, c3, hs1, hs2, hsr⟩ := (RdL.at_ l o k hlt hc).open'
          obtain ⟨b', o', rfl, hb', hc'⟩ := RdK.keep' hB h' (by omega)
          obtain ⟨d0, d1, d2, At, ct, d3, ht1, ht2, htr⟩ := (RdL.at_ m o' k hltm hc').open'
          have hsz := sizeL_mem hlt
          rw [Claim.subN_sub] at hsz
          have hcl : ∀ y : Ext wr, Calls Try.prog 58 #[.agg #[.int .i64 l[k].frm, .int .i64 l[k].to, .int .i64 l[k].wth, .slice As l[k].sub.length cs], .agg #[.int .i64 m[k].frm, .int .i64 m[k].to, .int .i64 m[k].wth, .slice At m[k].sub.length ct]] y.w fun e w' => e = .returned (.bool (l[k].eqB m[k])) ∧ Below y.w.heap.size y.w w' := fun y => by
            rw [Claim.eqB_eq]
            exact sameClaim_c _ _ _ _ _ _ _ _ _ _ _ _ y.w fun W hW => IH.out _ _ (by omega) _ _ _ _ W (RdK.keep' hW (RdK.keep' y.h hsr)) (RdK.keep' hW (RdK.keep' y.h htr)) (by unfold maxLen at hs2; omega) (by unfold maxLen at ht2; omega)
          have hec := ext_cell wr
          have hi0 : (0 : Int) ≤ (k : Int) := by omega
          have hi1 : (k : Int) < (l.length : Int) := by omega
          have hi2 : (k : Int) < (m.length : Int) := by omega
          have hno : l[k].eqB m[k] = false → eqL l m = false := fun h => eqL_no h
          have hnx : l[k].eqB m[k] = true → (∀ j (h : j < l.length) (h' : j < m.length), j < k + 1 → l[j].eqB m[j] = true) := fun hq j hj hj' hjk => by
            by_cases e : j = k
            · subst e; exact hq
            · exact hall.out j hj hj' (by omega)
          have HNo := Lib.hid hno
          have HNx := Lib.hid hnx
          have HB := Lib.hid hB
          clear hc h hc' h' hsr htr hsz hall hs1 hs2 ht1 ht2 hno hnx hB
          generalize l[k].frm = x0 at *
          generalize l[k].to = x1 at *
          generalize l[k].wth = x2 at *
          generalize l[k].sub.length = x3 at *
          generalize m[k].frm = y0 at *
          generalize m[k].to = y1 at *
          generalize m[k].wth = y2 at *
          generalize m[k].sub.length = y3 at *
          generalize l[k].eqB m[k] = q at *
          go_wp2_with fail
          refine wp_region_ext (by kernel_rfl) (by kernel_rfl) ?_
          repeat (go_big_quiet_step ((go_at_call 58; with_reducible exact ext_call (hcl _))))
          refine wpQuiet_nil ?_
          intro _ hw'
          obtain ⟨xx, hw''⟩ := hw'
          subst hw''
          have hB2 : Below w.heap.size w xx.w := HB.out.trans (xx.h.mono HB.out.size)
          clear hec hcl c0 c1 c2 c3 d0 d1 d2 d3 HB
          generalize xx.w = w3 at hB2 ⊢
          cases q with
          | true =>
            have Hnext := Lib.hid (HNx.out rfl)
            clear HNx HNo
            go_wp2
            go_roundw
            case rel => exact ⟨k + 1, by omega, by go_num, hB2, Hnext⟩
            case measure => simp [intOf]; omega
          | false =>
            have Hno := Lib.hid (HNo.out rfl)
            clear HNx HNo
            go_wp2
            go_ret
            exact ⟨ret_bool Hno.out.symm, hB2⟩
        · have Hyes := Lib.hid (eqL_yes Hlm.out fun j hj hj' => hall.out j hj hj' (by omega))
          clear hall
          go_wp2
          go_ret
          exact ⟨ret_bool Hyes.out.symm, hB⟩
    · have hne : ((l.length : Int) != (m.length : Int)) = true := by simp; omega
      have Hno : Hid (eqL l m = false) := by
        unfold Hid
        cases e : eqL l m with
        | false => rfl
        | true => rw [eqL_iff] at e; subst e; exact absurd rfl hlm
      clear hlm
      go_enter Try.func31, Try.ntmps31
      go_wp2
      go_ret
      exact ⟨ret_bool Hno.out.symm, Below.refl _ _⟩
end Go.Proofs.Ytlmbffnmjfbglab
