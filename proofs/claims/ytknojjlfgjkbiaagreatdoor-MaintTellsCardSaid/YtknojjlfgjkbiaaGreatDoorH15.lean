/- Texts F2 L1 F3, joined. -/
import Derived.Test.YtknojjlfgjkbiaaGreatDoorH13
import Derived.Test.YtknojjlfgjkbiaaGreatDoorH14
import Derived.Test.YtknojjlfgjkbiaaGreatDoorH02
set_option linter.unusedSimpArgs false
set_option linter.unusedVariables false
set_option linter.unusedSectionVars false
/- maps.Equal at counts of strings. -/
namespace Go.Proofs.YtknojjlfgjkbiaaGreatDoor
open Go.ChangeShapes Go.WideShapes Go.ChangeAt Go.RowKit Go.Maps
attribute [local go_sem] Oper.semAt_some

/-- the elements' equality. -/
def eqI : DataW Unit → DataW Unit → Bool
  | .lit (.int _ x), .lit (.int _ y) => x == y
  | _, _ => false
/-- two maps by their keys and values. -/
def eqMaps (ks1 ks2 : List ByteArray) (f1 f2 : ByteArray → Int) : Bool := decide (ks1.length = ks2.length) && ks1.all fun x => memB x ks2 && decide (f1 x = f2 x)
theorem entry_lit {w : World} {b n : Nat} {D : DataW Unit} (h : w.ownsMap Tryz.prog KS.k (plainElem Tryz.prog 3) b n D) : ∀ p ∈ Lib.entriesD D, ∃ x, KS.good x ∧ p.1 = KS.lit x := by
  obtain ⟨es, clock, hb, F, hsz, rfl⟩ := h
  intro p hp
  obtain ⟨x, hx, rfl⟩ := List.mem_map.1 (mem_sorted.1 hp)
  obtain ⟨y, hy⟩ := F.reads x hx
  have hk := WideElems.rd_key hy
  obtain ⟨z, hz, e⟩ := KS.inv _ _ hk
  refine ⟨z, hz, ?_⟩
  rw [WideElems.rg_of hy]
  have := KS.key z hz
  rw [← e, hk] at this
  exact Option.some.inj this
theorem has_memB {κ : Type} [DecidableEq κ] {M : MKind κ} {ks : List κ} {f : κ → Int} {D : DataW Unit} (h : KeyD M ks f D) {x : κ} (hx : M.good x) : Maps.has D (M.lit x) = memB x ks := h.has x hx
theorem equal_eq {w : World} {b1 n1 : Nat} {D1 D2 : DataW Unit} {ks1 ks2 : List ByteArray} {f1 f2 : ByteArray → Int} (h1 : w.ownsMap Tryz.prog KS.k (plainElem Tryz.prog 3) b1 n1 D1) (k1 : KeyD KS ks1 f1 D1) (k2 : KeyD KS ks2 f2 D2) :
    Lib.equalFuncD eqI D1 D2 = eqMaps ks1 ks2 f1 f2 := by
  have hel := entry_lit h1
  obtain ⟨es, rfl, hap, hkeys⟩ := h1.entries KS.law
  unfold Lib.equalFuncD eqMaps
  rw [k1.size, k2.size]
  congr 1
  rw [Bool.eq_iff_iff, List.all_eq_true, List.all_eq_true]
  have hent : ∀ x, KS.good x → ∀ p ∈ es, p.1 = KS.lit x → Lib.goodD eqI D2 p = (memB x ks2 && decide (f1 x = f2 x)) := fun x hx p hp e => by
    have hv : p.2 = i64D (f1 x) := by
      have a1 := WideAt.atKey_mem (i64D 0) (hkeys p hp) hap hp
      rw [e] at a1
      exact a1.symm.trans (k1.at_ x hx)
    unfold Lib.goodD
    rw [e, has_memB k2 hx, hv]
    cases hm : memB x ks2 with
    | true =>
      have h2 : D2.atKey (KS.lit x) .nil = i64D (f2 x) := by
        rw [atKey_indep (by rw [has_memB k2 hx]; exact hm) .nil (i64D 0)]
        exact k2.at_ x hx
      rw [h2]
      show (true && (f1 x == f2 x)) = (true && decide (f1 x = f2 x))
      rw [Bool.eq_iff_iff]; simp
    | false => rfl
  constructor
  · intro h x hx
    have hg := k1.good x hx
    have hh := has_memB k1 hg
    rw [memB_iff.2 hx] at hh
    obtain ⟨p, hp, hs⟩ := List.any_eq_true.1 (show es.any (fun p => p.1.sameKey (KS.lit x)) = true from hh)
    rw [← hent x hg p hp (WideAt.sameKey_eq hs)]
    exact h p hp
  · intro h p hp
    obtain ⟨x, hx, e⟩ := hel p hp
    rw [hent x hx p hp e]
    refine h x ?_
    have hh := has_memB k1 hx
    have : Maps.has (.map es : DataW Unit) (KS.lit x) = true := List.any_eq_true.2 ⟨p, hp, by rw [e]; exact WideAt.sameKey_self (MKind.isKey hx)⟩
    rw [this] at hh
    exact memB_iff.1 hh.symm
theorem equal_c {b1 b2 n1 n2 : Nat} {ks1 ks2 : List ByteArray} {f1 f2 : ByteArray → Int} (w : World) (h1 : OnMap KS w b1 n1 ks1 f1) (h2 : OnMap KS w b2 n2 ks2 f2) :
    Calls Tryz.prog 56 #[.map (some b1), .map (some b2)] w fun e w' => e = .returned (.bool (eqMaps ks1 ks2 f1 f2)) ∧ w.grownBy w' none := by
  obtain ⟨D1, o1, k1⟩ := h1
  obtain ⟨D2, o2, k2⟩ := h2
  rw [← equal_eq o1 k1 k2]
  refine Go.Proofs.AnyEq.maps_Equal Go.Proofs.Tryz.equalMaps KS.law (plainElem Tryz.prog 3) (plainElem Tryz.prog 3) eqI b1 b2 _ _ D1 D2 w o1 o2 (.int .i64 0) zero3 (i64D 0) [] (plainElem_int Tryz.underlying3 (by decide)) ?_
  intro W x y xd yd xp yp hx hy
  obtain ⟨a, rfl, ha⟩ := plainElem_int_inv Tryz.underlying3 hx
  obtain ⟨c, rfl, hc⟩ := plainElem_int_inv Tryz.underlying3 hy
  obtain ⟨rfl, rfl⟩ : xd = .lit (.int .i64 a) ∧ xp = [] := by have := ha.1; simpa using this
  obtain ⟨rfl, rfl⟩ : yd = .lit (.int .i64 c) ∧ yp = [] := by have := hc.1; simpa using this
  refine ⟨?_, fun u v => ?_⟩
  · show (binOp .neq 3 (.int .i64 a) (.int .i64 c)).run Tryz.prog W = .ok (.bool (!(a == c))) W
    have hu := Tryz.underlying3
    simp [go_sem, bne]
  · show (eqGuard .neq 3 u v (.int .i64 a) (.int .i64 c)).run Tryz.prog W = .ok () W
    have hu := Tryz.underlying3
    simp [go_sem, eqGuard]
end Go.Proofs.YtknojjlfgjkbiaaGreatDoor
/- MaintOnly and MaintOrder in plain words. -/
namespace Go.Proofs.YtknojjlfgjkbiaaGreatDoor

section
variable {ν ρ : Type} [DecidableEq ν] [DecidableEq ρ]
/-- the units at the places whose bits are set. -/
def setTo (all : List ν) (n : Nat) : Nat → List ν
  | 0 => []
  | k + 1 => match all[k]? with
    | some u => if n.testBit k then setTo all n k ++ [u] else setTo all n k
    | none => setTo all n k
def setV (all : List ν) (n : Nat) : List ν := setTo all n all.length
theorem mem_setTo {all : List ν} {n : Nat} : ∀ (k : Nat) (u : ν), u ∈ setTo all n k ↔ ∃ i, i < k ∧ all[i]? = some u ∧ n.testBit i = true
  | 0, u => by simp [setTo]
  | k + 1, u => by
    have ih := mem_setTo (all := all) (n := n) k
    simp only [setTo]
    constructor
    · intro h
      split at h
      · rename_i x hx
        split at h
        · rename_i hb
          rcases List.mem_append.1 h with h | h
          · obtain ⟨i, h1, h2, h3⟩ := (ih u).1 h
            exact ⟨i, by omega, h2, h3⟩
          · simp at h; subst h; exact ⟨k, by omega, hx, hb⟩
        · obtain ⟨i, h1, h2, h3⟩ := (ih u).1 h
          exact ⟨i, by omega, h2, h3⟩
      · obtain ⟨i, h1, h2, h3⟩ := (ih u).1 h
        exact ⟨i, by omega, h2, h3⟩
    · rintro ⟨i, h1, h2, h3⟩
      by_cases e : i = k
      · subst e
        rw [h2]
        simp [h3]
      · have := (ih u).2 ⟨i, by omega, h2, h3⟩
        split
        · split
          · simp [this]
          · exact this
        · exact this
theorem mem_setV {all : List ν} {n : Nat} {u : ν} : u ∈ setV all n ↔ ∃ i, i < all.length ∧ all[i]? = some u ∧ n.testBit i = true := mem_setTo _ _
theorem setV_sub {all : List ν} {n : Nat} {u : ν} (h : u ∈ setV all n) : u ∈ all := by
  obtain ⟨i, h1, h2, _⟩ := mem_setV.1 h
  exact List.mem_of_getElem? h2
theorem nodup_inj {all : List ν} (h : all.Nodup) {i j : Nat} {u : ν} (hi : all[i]? = some u) (hj : all[j]? = some u) : i = j := by
  obtain ⟨hi1, hi2⟩ := List.getElem?_eq_some_iff.1 hi
  exact (List.getElem?_inj hi1 h).1 (hi.trans hj.symm)
theorem setTo_nodup {all : List ν} (h : all.Nodup) (n : Nat) : ∀ k, (setTo all n k).Nodup
  | 0 => List.nodup_nil
  | k + 1 => by
    have ih := setTo_nodup h n k
    simp only [setTo]
    split
    · rename_i u hu
      split
      · rw [List.nodup_append]
        refine ⟨ih, by simp, fun a ha b hb => ?_⟩
        simp at hb
        subst hb
        rintro rfl
        obtain ⟨i, h1, h2, _⟩ := (mem_setTo k _).1 ha
        have := nodup_inj h h2 hu
        omega
      · exact ih
    · exact ih
theorem setV_nodup {all : List ν} (h : all.Nodup) (n : Nat) : (setV all n).Nodup := setTo_nodup h n _
def sameV (s acc : List ν) : Bool := decide (s.length = acc.length) && s.all fun u => decide (u ∈ acc)
def rightV (l : List (Ca ν ρ)) (reps : List ρ) (all s : List ν) : Bool := all.all fun u => hitV l reps s u == decide (u ∈ s)
theorem same_iff {s acc : List ν} (hs : s.Nodup) (ha : acc.Nodup) : sameV s acc = true ↔ ∀ u, u ∈ s ↔ u ∈ acc := by
  unfold sameV
  simp only [Bool.and_eq_true, decide_eq_true_eq, List.all_eq_true]
  refine ⟨fun ⟨h1, h2⟩ u => ⟨h2 u, all_of_len hs h2 (by omega) u⟩, fun h => ⟨?_, fun u hu => (h u).1 hu⟩⟩
  exact Nat.le_antisymm (len_le _ _ hs fun u hu => (h u).1 hu) (len_le _ _ ha fun u hu => (h u).2 hu)
theorem hit_mem {l : List (Ca ν ρ)} {reps : List ρ} {s s' : List ν} (h : ∀ u, u ∈ s ↔ u ∈ s') (u : ν) : hitV l reps s u = hitV l reps s' u := by
  rw [Bool.eq_iff_iff, hit_iff, hit_iff]
  simp only [holds_iff, h]
theorem right_iff {l : List (Ca ν ρ)} {reps : List ρ} {s : List ν} : rightV l reps (unitsV l) s = true ↔ ∀ u ∈ unitsV l, (u ∈ s ↔ hitV l reps s u = true) := by
  unfold rightV
  rw [List.all_eq_true]
  refine ⟨fun h u hu => ?_, fun h u hu => ?_⟩
  · have := h u hu
    rw [beq_iff_eq] at this
    rw [this, decide_eq_true_eq]
  · rw [beq_iff_eq, Bool.eq_iff_iff, decide_eq_true_eq]
    exact (h u hu).symm
/-- right are the accused ones alone. -/
theorem right_same {l : List (Ca ν ρ)} {reps : List ρ} (hok : okV l = true) {s : List ν} (hn : s.Nodup) (hs : ∀ u ∈ s, u ∈ unitsV l) : rightV l reps (unitsV l) s = sameV s (accV l reps) := by
  rw [Bool.eq_iff_iff, right_iff, same_iff hn (acc_nodup l reps)]
  constructor
  · intro h u
    have := acc_only reps hok h
    exact ⟨fun hu => (this u (hs u hu)).1 hu, fun hu => (this u (acc_sub l reps u hu)).2 hu⟩
  · intro h u hu
    rw [h u, acc_right reps hok u hu, hit_mem h]
theorem bits_of : ∀ (k : Nat) (p : Nat → Bool), ∃ n, n < 2 ^ k ∧ ∀ i, i < k → n.testBit i = p i
  | 0, p => ⟨0, by simp, fun i h => by omega⟩
  | k + 1, p => by
    obtain ⟨n, h1, h2⟩ := bits_of k p
    refine ⟨if p k then 2 ^ k + n else n, by split <;> omega, fun i hi => ?_⟩
    by_cases e : i = k
    · subst e
      split
      · rename_i h
        rw [Nat.testBit_two_pow_add_eq, Nat.testBit_lt_two_pow h1, h]; rfl
      · rename_i h
        rw [Nat.testBit_lt_two_pow h1]; exact (Bool.eq_false_iff.2 h).symm
    · have hik : i < k := by omega
      split
      · rw [Nat.testBit_two_pow_add_gt hik, h2 i hik]
      · exact h2 i hik
/-- how many sets below n are right. -/
def goodV (l : List (Ca ν ρ)) (reps : List ρ) : Nat → Nat
  | 0 => 0
  | n + 1 => goodV l reps n + if rightV l reps (unitsV l) (setV (unitsV l) n) then 1 else 0
theorem good_one {l : List (Ca ν ρ)} (reps : List ρ) (hok : okV l = true) : goodV l reps (2 ^ (unitsV l).length) = 1 := by
  have hnd := nodup_units l
  obtain ⟨n0, h1, h2⟩ := bits_of (unitsV l).length fun i => match (unitsV l)[i]? with | some u => decide (u ∈ accV l reps) | none => false
  have hiff : ∀ n, n < 2 ^ (unitsV l).length → (rightV l reps (unitsV l) (setV (unitsV l) n) = true ↔ n = n0) := fun n hn => by
    rw [right_same hok (setV_nodup hnd n) fun u hu => setV_sub hu, same_iff (setV_nodup hnd n) (acc_nodup l reps)]
    constructor
    · intro h
      refine Nat.eq_of_testBit_eq fun i => ?_
      by_cases hi : i < (unitsV l).length
      · rw [h2 i hi, List.getElem?_eq_getElem hi]
        have hu := h (unitsV l)[i]
        rw [Bool.eq_iff_iff, decide_eq_true_eq, ← hu, mem_setV]
        refine ⟨fun hb => ⟨i, hi, List.getElem?_eq_getElem hi, hb⟩, fun ⟨j, _, h4, h5⟩ => ?_⟩
        rw [nodup_inj hnd (List.getElem?_eq_getElem hi) h4]
        exact h5
      · have hp : 2 ^ (unitsV l).length ≤ 2 ^ i := Nat.pow_le_pow_right (by omega) (by omega)
        rw [Nat.testBit_lt_two_pow (by omega), Nat.testBit_lt_two_pow (by omega)]
    · rintro rfl u
      rw [mem_setV]
      constructor
      · rintro ⟨i, h3, h4, h5⟩
        rw [h2 i h3, h4] at h5
        simpa using h5
      · intro hu
        obtain ⟨i, hi, rfl⟩ := List.getElem_of_mem (acc_sub l reps u hu)
        refine ⟨i, hi, List.getElem?_eq_getElem hi, ?_⟩
        rw [h2 i hi, List.getElem?_eq_getElem hi]
        simpa using hu
  have key : ∀ n, n ≤ 2 ^ (unitsV l).length → goodV l reps n = if n0 < n then 1 else 0 := by
    intro n
    induction n with
    | zero => intro _; simp [goodV]
    | succ n ih =>
      intro hn
      simp only [goodV]
      rw [ih (by omega)]
      by_cases e : n = n0
      · subst e
        rw [if_neg (by omega), if_pos ((hiff n (by omega)).2 rfl), if_pos (by omega)]
      · rw [if_neg (fun h => e ((hiff n (by omega)).1 h))]
        by_cases hlt : n0 < n
        · rw [if_pos hlt, if_pos (by omega)]
        · rw [if_neg hlt, if_neg (by omega)]
  rw [key _ (Nat.le_refl _), if_pos h1]
/-- what Check computes. -/
def wantV (l : List (Ca ν ρ)) (reps : List ρ) (s : List ν) : List ν := ((l.filter fun c => holdsV reps s c).map Ca.unit).foldl addU []
def checkV (l : List (Ca ν ρ)) (reps : List ρ) (s : List ν) : Bool :=
  decide ((s.foldl addU []).length = (wantV l reps s).length) && (s.foldl addU []).all fun u => decide (s.count u = 1) && decide (u ∈ wantV l reps s)
theorem mem_want {l : List (Ca ν ρ)} {reps : List ρ} {s : List ν} {u : ν} : u ∈ wantV l reps s ↔ hitV l reps s u = true := by
  unfold wantV
  rw [mem_fold, hit_iff]
  simp only [List.not_mem_nil, false_or, List.mem_map, List.mem_filter]
  exact ⟨fun ⟨c, ⟨h1, h2⟩, h3⟩ => ⟨c, h1, h3, h2⟩, fun ⟨c, h1, h2, h3⟩ => ⟨c, ⟨h1, h3⟩, h2⟩⟩
theorem want_units {l : List (Ca ν ρ)} {reps : List ρ} {s : List ν} {u : ν} (h : u ∈ wantV l reps s) : u ∈ unitsV l := by
  obtain ⟨c, h1, h2, _⟩ := hit_iff.1 (mem_want.1 h)
  exact mem_units.2 ⟨c, h1, h2⟩
theorem fold_same (s : List ν) (u : ν) : u ∈ s.foldl addU [] ↔ u ∈ s := by rw [mem_fold]; simp
theorem check_right {l : List (Ca ν ρ)} {reps : List ρ} {s : List ν} (hn : s.Nodup) (hs : ∀ u ∈ s, u ∈ unitsV l) : checkV l reps s = rightV l reps (unitsV l) s := by
  have hw : (wantV l reps s).Nodup := nodup_fold _ _ List.nodup_nil
  have hd : (s.foldl addU []).Nodup := nodup_fold _ _ List.nodup_nil
  rw [Bool.eq_iff_iff, right_iff]
  unfold checkV
  simp only [Bool.and_eq_true, decide_eq_true_eq, List.all_eq_true, fold_same]
  constructor
  · rintro ⟨h1, h2⟩ u hu
    rw [← mem_want]
    refine ⟨fun h => (h2 u h).2, fun h => ?_⟩
    exact (fold_same s u).1 (all_of_len hd (fun x hx => (h2 x ((fold_same s x).1 hx)).2) (by omega) u h)
  · intro h
    have hiff : ∀ u, u ∈ s ↔ u ∈ wantV l reps s := fun u =>
      ⟨fun hu => mem_want.2 ((h u (hs u hu)).1 hu), fun hu => (h u (want_units hu)).2 (mem_want.1 hu)⟩
    refine ⟨?_, fun u hu => ⟨?_, (hiff u).1 hu⟩⟩
    · exact Nat.le_antisymm (len_le _ _ hd fun u hu => (hiff u).1 ((fold_same s u).1 hu)) (len_le _ _ hw fun u hu => (fold_same s u).2 ((hiff u).2 hu))
    · rw [hn.count, if_pos hu]
end
end Go.Proofs.YtknojjlfgjkbiaaGreatDoor
/- Check. -/
namespace Go.Proofs.YtknojjlfgjkbiaaGreatDoor
open Go.ChangeShapes Go.WideShapes Go.ChangeAt Go.RowKit
attribute [local go_sem] Oper.semAt_some

def oneIf (ks : List ByteArray) (x : ByteArray) : Int := if memB x ks then 1 else 0
theorem oneIf_push (ks : List ByteArray) (u : ByteArray) : setF (oneIf ks) u 1 = oneIf (addU ks u) := by
  funext x
  unfold setF oneIf
  by_cases e : x = u
  · subst e
    rw [if_pos rfl, if_pos (memB_iff.2 (mem_addU.2 (.inr rfl)))]
  · rw [if_neg e]
    have : memB x (addU ks u) = memB x ks := by
      rw [Bool.eq_iff_iff, memB_iff, memB_iff, mem_addU]
      exact ⟨fun h => h.resolve_right e, .inl⟩
    rw [this]
theorem want_snoc (l : List Cs) (c : Cs) (reps : List Rep) (s : List ByteArray) : wantV (l ++ [c]) reps s = if holdB reps s c = true then addU (wantV l reps s) c.unit else wantV l reps s := by
  unfold wantV holdB
  rw [List.filter_append]
  by_cases h : holdsV reps s c = true
  · rw [if_pos h]; simp [h]
  · rw [if_neg h]; simp [h]
theorem eq_check (l : List Cs) (reps : List Rep) (s : List ByteArray) : eqMaps (s.foldl addU []) (wantV l reps s) (fun x => (cntB x s : Int)) (oneIf (wantV l reps s)) = checkV l reps s := by
  unfold eqMaps checkV
  congr 1
  rw [Bool.eq_iff_iff, List.all_eq_true, List.all_eq_true]
  refine forall_congr' fun x => forall_congr' fun hx => ?_
  unfold oneIf
  show ((memB x (wantV l reps s) && decide ((cntB x s : Int) = if memB x (wantV l reps s) = true then 1 else 0)) = true) ↔ ((decide (cntB x s = 1) && memB x (wantV l reps s)) = true)
  cases memB x (wantV l reps s) with
  | false => simp
  | true =>
    simp only [Bool.true_and, Bool.and_true, if_true, decide_eq_true_eq]
    omega

set_option maxRecDepth 100000 in
set_option maxHeartbeats 4000000 in
theorem Check_c (L : List CsV) (reps : List Rep) (s : List ByteArray) (A : Option Addr) (c : Nat) (A1 : Option Addr) (c1 : Nat) (A2 : Option Addr) (c2 : Nat) (w : World) (h : RdCs w w.heap.size A L) (ok : ∀ x ∈ L, OkC x.c) (hl : L.length ≤ 100000)
    (hr : RdRep w w.heap.size A1 reps) (okr : ∀ r ∈ reps, r.ok) (hl2 : reps.length < maxLen) (hs : RdStr w w.heap.size A2 s) (oks : ∀ u ∈ s, u.size ≤ maxLen) (hl3 : s.length ≤ 100000) :
    Calls Tryz.prog 25 #[.slice A L.length c, .slice A1 reps.length c1, .slice A2 s.length c2] w fun e w' => e = .returned (.bool (checkV (csOf L) reps s)) ∧ Below w.heap.size w w' := by
  have hof := of_c reps A1 c1 w hr okr hl2
  have Hof := Lib.hid hof
  have H := Lib.hid h
  have Hok := Lib.hid ok
  have Hs := Lib.hid hs
  have Hoks := Lib.hid oks
  have hmk := @run_makeMap Tryz.prog
  clear hof h ok hr okr hs oks
  go_enter Tryz.func25, Tryz.ntmps25
  go_wp2_with fail
  refine Hof.out.mono ?_
  rintro e w1 ⟨rfl, hm1, hb1⟩
  have Hm1 := Lib.hid hm1
  have Hb1 := Lib.hid hb1
  have hlt1 := hm1.lt
  have hsz1 := hb1.size
  clear hm1 hb1 Hof
  go_wp2_with fail
  go_loopw [19] (fun t wr => ∃ k : Nat, k ≤ s.length ∧ t = .int .i64 k ∧ CntMap KS wr w1.heap.size (s.take k) ∧ Below w1.heap.size w1 wr) (fun t wr => s.length - (intOf t).toNat)
  case atStart => exact ⟨0, Nat.zero_le _, rfl, CntMap.made w1, (Below.refl _ w1).alloc (Nat.le_refl _) _⟩
  case round =>
    obtain ⟨k, hk, rfl, hcm, hB⟩ := hrel
    have hwB := Hb1.out.trans (hB.mono Hb1.out.size)
    by_cases hlt : k < s.length
    · obtain ⟨bo, oo, rfl, hbo, hco⟩ := (Hs.out.keep hwB).at_ hlt
      have hu := Hoks.out s[k] (List.getElem_mem hlt)
      have hbw : bo < wr.heap.size := World.block_lt_of_cell? wr _ hco
      have htk : s.take (k + 1) = s.take k ++ [s[k]] := List.take_succ_eq_append_getElem hlt
      have hln : (s.take k).length < maxLen := by simp [maxLen]; omega
      have hcl' := cnt_le s[k] (s.take k)
      have hcb : (cntB s[k] (s.take k) : Int) ≤ 9223372036854775806 := by unfold maxLen at hln; omega
      have hc0 : (0 : Int) ≤ (cntB s[k] (s.take k) : Int) := by omega
      have Htk := Lib.hid htk
      have Hcm := Lib.hid hcm
      have HB := Lib.hid hB
      clear htk hcm hB hwB hcl'
      generalize s[k] = u at *
      generalize s.take k = sk at *
      go_wp2_with (first
        | (at_lookup; refine wpList_cnt (M := KS) rfl (.tmp 23) (.tmp 24) rfl rfl Hcm.out u hu rfl ?_)
        | (at_mapUpdate; refine wpList_push (M := KS) rfl (.tmp 23) (.tmp 24) (.tmp 26) rfl rfl Hcm.out hln u hu rfl rfl ?_; intro w2 hw2 hg2))
      have HR := Lib.hid (And.intro hw2 (HB.out.grown hg2 HB.out.size (fun j e => by cases e; omega)))
      clear hw2 hg2
      go_roundw
      case rel => exact ⟨k + 1, by omega, by go_num, by rw [Htk.out]; exact HR.out.1, HR.out.2⟩
      case measure => simp [intOf]; omega
    · obtain rfl : k = s.length := by omega
      rw [List.take_length] at hcm
      obtain ⟨n1, hn1, hO1⟩ := hcm
      have hlu := hO1.lt
      have HO1 := Lib.hid hO1
      have HB := Lib.hid hB
      have HW := Lib.hid hwB
      clear hO1 hB hwB
      generalize hw3 : wr = w3 at *
      clear hw3
      go_wp2_with fail
      go_loopw [31] (fun t wr => ∃ (k n2 : Nat), k ≤ L.length ∧ n2 ≤ k ∧ t = .int .i64 k ∧ OnMap KS wr w3.heap.size n2 (wantV (csOf (L.take k)) reps s) (oneIf (wantV (csOf (L.take k)) reps s)) ∧ Below w3.heap.size w3 wr) (fun t wr => L.length - (intOf t).toNat)
      case atStart =>
        refine ⟨0, 0, Nat.zero_le _, Nat.le_refl _, rfl, ?_, (Below.refl _ w3).alloc (Nat.le_refl _) _⟩
        have := OnMap.made (M := KS) w3
        exact this
      case round =>
        obtain ⟨k, n2, hk, hn2, rfl, hO, hB2⟩ := hrel
        by_cases hlt : k < L.length
        · have hwr := HW.out.trans (hB2.mono HW.out.size)
          obtain ⟨bo, oo, rfl, hb, hc⟩ := (H.out.keep hwr) (by omega)
          obtain ⟨d0, d1, d2, hx⟩ := hc k hlt
          have hok := Hok.out L[k] (List.getElem_mem hlt)
          have hbw : bo < wr.heap.size := World.block_lt_of_cell? wr _ d0
          have htk : csOf (L.take (k + 1)) = csOf (L.take k) ++ [L[k].c] := by unfold csOf; rw [List.take_succ_eq_append_getElem hlt, List.map_append]; rfl
          have hnx := want_snoc (csOf (L.take k)) L[k].c reps s
          rw [← htk] at hnx
          have hcall := holds_c reps s w.heap.size w1.heap.size L[k] (wr.alloc (.cells #[.string L[k].c.unit, .slice L[k].n.a L[k].n.n L[k].n.c, .slice L[k].x.a L[k].x.n L[k].x.c] 29))
            ((hx.more (B' := wr.heap.size) (by have := hwr.size; omega)).below ((Below.refl _ wr).alloc (Nat.le_refl _) _)) hok (((Hm1.out.below HB.out hlt1).below hB2 (by have := HB.out.size; omega)).alloc _) ((CntMap.below ⟨n1, hn1, HO1.out⟩ hB2 hlu).alloc _)
          have Hnx := Lib.hid hnx
          have Hcall := Lib.hid hcall
          have HO := Lib.hid hO
          have HB2 := Lib.hid hB2
          have hlO := hO.lt
          have hu := hok.u
          clear hwr hc hx hok htk hnx hcall hO hB2
          generalize wantV (csOf (L.take k)) reps s = ks at *
          generalize L[k] = x at *
          go_wp2_with fail
          refine Hcall.out.mono ?_
          rintro e w5 ⟨rfl, hb5⟩
          have hO5 := (HO.out.alloc (.cells #[.string x.c.unit, .slice x.n.a x.n.n x.n.c, .slice x.x.a x.x.n x.x.c] 29)).below hb5 (by simp; omega)
          have hB5 := (HB2.out.alloc HB2.out.size (.cells #[.string x.c.unit, .slice x.n.a x.n.n x.n.c, .slice x.x.a x.x.n x.x.c] 29)).trans (hb5.mono (by simp; have := HB2.out.size; omega))
          have c0 : w5.cell? ⟨wr.heap.size, 0, none⟩ = some (.string x.c.unit) := ((Blk.new wr 29 #[.string x.c.unit, .slice x.n.a x.n.n x.n.c, .slice x.x.a x.x.n x.x.c]).below hb5 (by simp)).cell 0
          have HO5 := Lib.hid hO5
          have HB5 := Lib.hid hB5
          clear hO5 hB5 hb5 Hcall HO HB2 d0 d1 d2
          cases hq : holdB reps s x.c with
          | false =>
            rw [hq] at Hnx
            have Hks : Hid (wantV (csOf (L.take (k + 1))) reps s = ks) := by
              have := Hnx.out
              simp only [Bool.false_eq_true, if_false] at this
              exact Lib.hid this
            clear Hnx hq
            go_wp2_with fail
            go_roundw
            case rel => exact ⟨k + 1, n2, by omega, by omega, by go_num, by rw [Hks.out]; exact HO5.out, HB5.out⟩
            case measure => simp [intOf]; omega
          | true =>
            rw [hq] at Hnx
            have Hks : Hid (wantV (csOf (L.take (k + 1))) reps s = addU ks x.c.unit) := by
              have := Hnx.out
              simp only [if_true] at this
              exact Lib.hid this
            clear Hnx hq
            go_wp2_with (at_mapUpdate; refine wpList_store (M := KS) rfl (.tmp 39) (.tmp 41) (.const (.int .i64 1)) rfl rfl HO5.out (by unfold maxLen; omega) x.c.unit hu rfl 1 rfl (by decide) ?_; intro w6 hw6 hg6)
            go_roundw
            case rel =>
              refine ⟨k + 1, n2 + 1, by omega, by omega, by go_num, ?_, HB5.out.grown hg6 HB5.out.size (fun j e => by cases e; omega)⟩
              rw [Hks.out, ← oneIf_push]
              exact hw6
            case measure => simp [intOf]; omega
        · obtain rfl : k = L.length := by omega
          rw [List.take_length] at hO
          have heq := equal_c wr (HO1.out.below hB2 hlu) hO
          rw [eq_check] at heq
          have Heq := Lib.hid heq
          have HB2 := Lib.hid (HW.out.trans (hB2.mono HW.out.size))
          clear hO hB2 heq
          go_wp2_with fail
          refine Heq.out.mono ?_
          rintro e w5 ⟨rfl, hg5⟩
          have HB5 := Lib.hid (HB2.out.grown hg5 HB2.out.size (fun j e => by cases e))
          clear hg5 Heq
          go_wp2_with fail
          go_ret
          exact ⟨rfl, HB5.out⟩
end Go.Proofs.YtknojjlfgjkbiaaGreatDoor
