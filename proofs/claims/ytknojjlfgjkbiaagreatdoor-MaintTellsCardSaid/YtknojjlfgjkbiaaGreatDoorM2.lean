/- Texts T0 T1 T2, joined. -/
import Derived.Test.YtknojjlfgjkbiaaGreatDoorH15
import Derived.Test.YtknojjlfgjkbiaaGreatDoorH33
import Derived.Test.YtknojjlfgjkbiaaGreatDoorH22
import Derived.Test.YtknojjlfgjkbiaaGreatDoorH19
import Derived.Test.YtknojjlfgjkbiaaGreatDoorH06
set_option linter.unusedSimpArgs false
set_option linter.unusedVariables false
set_option linter.unusedSectionVars false
/- MaintTells in plain words: the reference's order, verdicts, sorting and check are the program's. -/
namespace Go.Proofs.YtknojjlfgjkbiaaGreatDoor
open Go.ChangeShapes Go.WideShapes Go.ChangeAt Go.RowKit

theorem below_cell0 {w w' : World} {p : Addr} {v : Value} (h : Below w.heap.size w w') (hc : w.cell? p = some v) : w'.cell? p = some v := (h.cell (World.block_lt_of_cell? _ _ hc)).trans hc
theorem nodup_take {α : Type} [DecidableEq α] {l : List α} {k : Nat} (h : l.Nodup) (hk : k < l.length) : l[k] ∉ l.take k := fun hm => by
  obtain ⟨j, hj, e⟩ := List.mem_iff_getElem.1 hm
  have hj' : j < k := by simp at hj; omega
  rw [List.getElem_take] at e
  have := nodup_inj h (u := l[k]) (i := j) (j := k) (by rw [List.getElem?_eq_getElem (by omega), e]) (List.getElem?_eq_getElem hk)
  omega
section
variable {ν ρ : Type} [DecidableEq ν] [DecidableEq ρ]
/-- the reference finds the causes well-founded when its order has all their units. -/
theorem ref_ok (l : List (Ca ν ρ)) : (l.all fun c => decide (c.unit ∈ orderV l)) = okV l := by
  rw [Bool.eq_iff_iff, List.all_eq_true]
  constructor
  · intro h
    refine decide_eq_true (Nat.le_antisymm (order_len l) (len_le _ _ (nodup_units l) fun u hu => ?_))
    obtain ⟨c, hc, rfl⟩ := mem_units.1 hu
    exact of_decide_eq_true (h c hc)
  · intro h c hc
    exact decide_eq_true (ok_all h _ (mem_units.2 ⟨c, hc, rfl⟩))
/-- what the reference's Check says. -/
structure CheckR (l : List (Ca ν ρ)) (reps : List ρ) (s : List ν) : Prop where
  nodup : s.Nodup
  hit : ∀ u ∈ s, hitV l reps s u = true
  all : ∀ c ∈ l, c.unit ∈ s ∨ holdsV reps s c = false
theorem check_ref {l : List (Ca ν ρ)} {reps : List ρ} {s : List ν} : checkV l reps s = true ↔ CheckR l reps s := by
  have hw : (wantV l reps s).Nodup := nodup_fold _ _ List.nodup_nil
  have hd : (s.foldl addU []).Nodup := nodup_fold _ _ List.nodup_nil
  unfold checkV
  simp only [Bool.and_eq_true, decide_eq_true_eq, List.all_eq_true, fold_same]
  constructor
  · rintro ⟨h1, h2⟩
    have hs : s.Nodup := List.nodup_iff_count.2 fun u => by
      by_cases hu : u ∈ s
      · rw [(h2 u hu).1]; exact Nat.le_refl _
      · rw [List.count_eq_zero.2 hu]; omega
    refine ⟨hs, fun u hu => mem_want.1 (h2 u hu).2, fun c hc => ?_⟩
    cases hh : holdsV reps s c with
    | false => exact .inr rfl
    | true =>
      refine .inl ((fold_same s _).1 (all_of_len hd (fun x hx => (h2 x ((fold_same s x).1 hx)).2) (by omega) _ (mem_want.2 (hit_iff.2 ⟨c, hc, rfl, hh⟩))))
  · rintro ⟨h1, h2, h3⟩
    have hiff : ∀ u, u ∈ s ↔ u ∈ wantV l reps s := fun u => by
      refine ⟨fun hu => mem_want.2 (h2 u hu), fun hu => ?_⟩
      obtain ⟨c, hc, rfl, hh⟩ := hit_iff.1 (mem_want.1 hu)
      rcases h3 c hc with h | h
      · exact h
      · rw [h] at hh; cases hh
    refine ⟨?_, fun u hu => ⟨?_, (hiff u).1 hu⟩⟩
    · exact Nat.le_antisymm (len_le _ _ hd fun u hu => (hiff u).1 ((fold_same s u).1 hu)) (len_le _ _ hw fun u hu => (fold_same s u).2 ((hiff u).2 hu))
    · rw [h1.count, if_pos hu]
end
/-- strictly ascending. -/
def SAsc (l : List Rep) : Prop := l.Pairwise fun a b => repLt a b = true
theorem sasc_of {l : List Rep} (h : l.Nodup) (ha : Asc l) : SAsc l := by
  unfold SAsc
  rw [List.pairwise_iff_getElem]
  intro i j hi hj hij
  cases hk : repLt l[i] l[j] with
  | true => rfl
  | false =>
    have e := repLt_tri hk (ha i j hij hj)
    have := (List.getElem_inj h).1 e
    omega
theorem sasc_nodup {l : List Rep} (h : SAsc l) : l.Nodup := by
  refine List.Pairwise.imp ?_ h
  intro a b hab e
  subst e
  rw [repLt_irrefl] at hab
  cases hab
theorem sasc_eq : ∀ {a b : List Rep}, SAsc a → SAsc b → (∀ x, x ∈ a ↔ x ∈ b) → a = b
  | [], [], _, _, _ => rfl
  | [], y :: b, _, _, h => absurd ((h y).2 (by simp)) (by simp)
  | x :: a, [], _, _, h => absurd ((h x).1 (by simp)) (by simp)
  | x :: a, y :: b, ha, hb, h => by
    obtain ⟨ha1, ha2⟩ := List.pairwise_cons.1 ha
    obtain ⟨hb1, hb2⟩ := List.pairwise_cons.1 hb
    have e : x = y := by
      rcases List.mem_cons.1 ((h x).1 (by simp)) with e | e
      · exact e
      rcases List.mem_cons.1 ((h y).2 (by simp)) with e' | e'
      · exact e'.symm
      have h1 := ha1 y e'
      have h2 := hb1 x e
      have := repLt_trans h1 h2
      rw [repLt_irrefl] at this
      cases this
    subst e
    have hx : ∀ z, z ∈ a ↔ z ∈ b := fun z => by
      constructor
      · intro hz
        rcases List.mem_cons.1 ((h z).1 (by simp [hz])) with e | e
        · subst e; have := ha1 z hz; rw [repLt_irrefl] at this; cases this
        · exact e
      · intro hz
        rcases List.mem_cons.1 ((h z).2 (by simp [hz])) with e | e
        · subst e; have := hb1 z hz; rw [repLt_irrefl] at this; cases this
        · exact e
    rw [sasc_eq ha2 hb2 hx]
/-- the place of a report in an ascending list. -/
def atR (out : List Rep) (x : Rep) : Nat := out.findIdx fun y => !repLt y x
def insR (out : List Rep) (x : Rep) : List Rep := out.take (atR out x) ++ x :: out.drop (atR out x)
def addR (out : List Rep) (x : Rep) : List Rep := if x ∈ out then out else insR out x
/-- the reference's sorted list. -/
def sortR (l : List Rep) : List Rep := l.foldl addR []
theorem atR_le (out : List Rep) (x : Rep) : atR out x ≤ out.length := List.findIdx_le_length
theorem atR_before {out : List Rep} {x : Rep} {k : Nat} (hk : k < atR out x) : repLt (out[k]'(Nat.lt_of_lt_of_le hk (atR_le out x))) x = true := by
  have := List.not_of_lt_findIdx hk
  simpa using this
theorem atR_at {out : List Rep} {x : Rep} (h : atR out x < out.length) : repLt out[atR out x] x = false := by
  have h' : List.findIdx (fun y => !repLt y x) out < out.length := h
  have := List.findIdx_getElem (w := h')
  change repLt (out[List.findIdx (fun y => !repLt y x) out]'h') x = false
  simpa using this
theorem mem_ins {out : List Rep} {x y : Rep} : y ∈ insR out x ↔ y = x ∨ y ∈ out := by
  unfold insR
  rw [List.mem_append, List.mem_cons]
  constructor
  · rintro (h | h | h)
    · exact .inr (List.mem_of_mem_take h)
    · exact .inl h
    · exact .inr (List.mem_of_mem_drop h)
  · rintro (h | h)
    · exact .inr (.inl h)
    · rw [← List.take_append_drop (atR out x) out, List.mem_append] at h
      rcases h with h | h
      · exact .inl h
      · exact .inr (.inr h)
theorem sasc_ins {out : List Rep} {x : Rep} (h : SAsc out) (hx : x ∉ out) : SAsc (insR out x) := by
  unfold insR SAsc
  have hp := h
  unfold SAsc at hp
  rw [List.pairwise_iff_getElem] at hp
  rw [List.pairwise_append, List.pairwise_cons]
  have hb : ∀ b ∈ out.drop (atR out x), repLt x b = true := fun b hb => by
    obtain ⟨j, hj, rfl⟩ := List.getElem_of_mem hb
    rw [List.length_drop] at hj
    rw [List.getElem_drop]
    have hlt : atR out x < out.length := by omega
    have h0 : repLt x out[atR out x] = true := by
      cases hk : repLt x out[atR out x] with
      | true => rfl
      | false => exact absurd (repLt_tri hk (atR_at hlt)) (fun e => hx (e ▸ List.getElem_mem hlt))
    by_cases e : j = 0
    · subst e; exact h0
    · exact repLt_trans h0 (hp _ _ hlt (by omega) (by omega))
  refine ⟨List.Pairwise.sublist (List.take_sublist _ _) h, ⟨hb, List.Pairwise.sublist (List.drop_sublist _ _) h⟩, fun a ha b hb' => ?_⟩
  have hax : repLt a x = true := by
    obtain ⟨i, hi, rfl⟩ := List.getElem_of_mem ha
    rw [List.length_take] at hi
    rw [List.getElem_take]
    exact atR_before (by omega)
  rcases List.mem_cons.1 hb' with rfl | hb'
  · exact hax
  · exact repLt_trans hax (hb b hb')
theorem sasc_fold : ∀ (l out : List Rep), SAsc out → SAsc (l.foldl addR out) ∧ ∀ y, y ∈ l.foldl addR out ↔ y ∈ out ∨ y ∈ l
  | [], out, h => ⟨h, fun y => by simp⟩
  | x :: l, out, h => by
    have h1 : SAsc (addR out x) ∧ ∀ y, y ∈ addR out x ↔ y = x ∨ y ∈ out := by
      unfold addR
      by_cases hx : x ∈ out
      · rw [if_pos hx]
        exact ⟨h, fun y => ⟨.inr, fun hy => hy.elim (fun e => e ▸ hx) id⟩⟩
      · rw [if_neg hx]
        exact ⟨sasc_ins h hx, fun y => mem_ins⟩
    obtain ⟨h2, h3⟩ := sasc_fold l _ h1.1
    refine ⟨h2, fun y => ?_⟩
    rw [List.foldl_cons, h3, h1.2, List.mem_cons]
    constructor
    · rintro ((h | h) | h)
      · exact .inr (.inl h)
      · exact .inl h
      · exact .inr (.inr h)
    · rintro (h | h | h)
      · exact .inl (.inr h)
      · exact .inl (.inl h)
      · exact .inr h
theorem sortR_ok (l : List Rep) : SAsc (sortR l) ∧ ∀ y, y ∈ sortR l ↔ y ∈ l := by
  obtain ⟨h1, h2⟩ := sasc_fold l [] List.Pairwise.nil
  exact ⟨h1, fun y => by rw [show sortR l = l.foldl addR [] from rfl, h2]; simp⟩
theorem addR_len (out : List Rep) (x : Rep) : (addR out x).length ≤ out.length + 1 := by
  unfold addR
  split
  · omega
  · unfold insR
    have := atR_le out x
    simp
    omega
theorem sortR_len : ∀ (l out : List Rep), (l.foldl addR out).length ≤ out.length + l.length
  | [], out => by simp
  | x :: l, out => by
    have := sortR_len l (addR out x)
    have := addR_len out x
    simp only [List.foldl_cons, List.length_cons]
    omega
/-- the reference's open reports. -/
def explR (l : List Cs) (reps : List Rep) (us of : List ByteArray) : List Rep := l.flatMap fun c => if memB c.unit of && holdB reps us c then c.needs else []
def lessR (l out : List Rep) : List Rep := l.filter fun r => !memB r out
def openR (l : List Cs) (reps : List Rep) (us : List ByteArray) : List Rep := sortR (lessR reps (explR l reps us us))
theorem mem_explR {l : List Cs} {reps : List Rep} {us of : List ByteArray} {r : Rep} : r ∈ explR l reps us of ↔ ∃ c ∈ l, c.unit ∈ of ∧ holdB reps us c = true ∧ r ∈ c.needs := by
  unfold explR
  rw [List.mem_flatMap]
  constructor
  · rintro ⟨c, hc, h⟩
    split at h
    · rename_i hh
      rw [Bool.and_eq_true, memB_iff] at hh
      exact ⟨c, hc, hh.1, hh.2, h⟩
    · simp at h
  · rintro ⟨c, hc, h1, h2, h3⟩
    refine ⟨c, hc, ?_⟩
    rw [if_pos (by rw [Bool.and_eq_true, memB_iff]; exact ⟨h1, h2⟩)]
    exact h3
/-- the program's open reports are the reference's. -/
theorem open_ref {L : List CsV} {reps l : List Rep} {acc : List ByteArray} (hnd : l.Nodup) (hasc : Asc l) (hmem : ∀ x, x ∈ l ↔ openB L reps acc acc x) : l = openR (csOf L) reps acc := by
  obtain ⟨h1, h2⟩ := sortR_ok (lessR reps (explR (csOf L) reps acc acc))
  refine sasc_eq (sasc_of hnd hasc) h1 fun x => ?_
  rw [hmem, show openR (csOf L) reps acc = sortR (lessR reps (explR (csOf L) reps acc acc)) from rfl, h2]
  unfold lessR openB
  rw [List.mem_filter, Bool.not_eq_true', ← Bool.not_eq_true, memB_iff, mem_explR]
  refine and_congr Iff.rfl (not_congr ?_)
  constructor
  · rintro ⟨u, hu, hx⟩
    obtain ⟨c, hc, rfl, hh, hn⟩ := mem_explV.1 hx
    exact ⟨c, hc, hu, hh, hn⟩
  · rintro ⟨c, hc, hu, hh, hn⟩
    exact ⟨c.unit, hu, mem_explV.2 ⟨c, hc, rfl, hh, hn⟩⟩
/-- the index of the first cause of a unit that holds. -/
def firstN (L : List CsV) (reps : List Rep) (us : List ByteArray) (u : ByteArray) : Nat := L.findIdx fun x => decide (x.c.unit = u) && holdB reps us x.c
def firstI (L : List CsV) (reps : List Rep) (us : List ByteArray) (u : ByteArray) : Int := if firstN L reps us u < L.length then (firstN L reps us u : Int) else -1
theorem first_hit {L : List CsV} {reps : List Rep} {us : List ByteArray} {u : ByteArray} : firstN L reps us u < L.length ↔ hitV (csOf L) reps us u = true := by
  unfold firstN
  rw [List.findIdx_lt_length, hit_iff]
  constructor
  · rintro ⟨x, hx, h⟩
    rw [Bool.and_eq_true, decide_eq_true_eq] at h
    exact ⟨x.c, List.mem_map_of_mem hx, h.1, h.2⟩
  · rintro ⟨c, hc, h1, h2⟩
    obtain ⟨x, hx, rfl⟩ := List.mem_map.1 hc
    exact ⟨x, hx, by rw [Bool.and_eq_true, decide_eq_true_eq]; exact ⟨h1, h2⟩⟩
/-- a verdict names the first cause that holds. -/
theorem ver_first {L : List CsV} {reps : List Rep} {acc : List ByteArray} {u : ByteArray} {x : Ver} (h : VerOk L reps acc u x) : ∃ hk : firstN L reps acc u < L.length, x.cause = firstN L reps acc u ∧ x.reps = L[firstN L reps acc u].c.needs ∧ x.unit = u := by
  obtain ⟨hu, k, hk, hc, hlu, hh, hr, hb⟩ := h
  have hfi : firstN L reps acc u = k := by
    unfold firstN
    rw [List.findIdx_eq hk]
    refine ⟨by rw [hh]; simp [hlu], fun j hj => ?_⟩
    by_cases hju : L[j].c.unit = u
    · rw [hb j hj hju, Bool.and_false]
    · rw [decide_eq_false hju, Bool.false_and]
  exact ⟨by rw [hfi]; exact hk, by rw [hfi]; exact hc, by simp only [hfi]; exact hr, hu⟩
end Go.Proofs.YtknojjlfgjkbiaaGreatDoor
/- The reference's Has, HasReport, free, Holds, first. -/
namespace Go.Proofs.YtknojjlfgjkbiaaGreatDoor
open Go.ChangeShapes Go.WideShapes Go.ChangeAt Go.RowKit
attribute [local go_sem] Oper.semAt_some

theorem rep_one (l : List Rep) : ∀ u ∈ l.flatMap Rep.cells, u.oneCell' = true := fun u hu => by
  obtain ⟨r, _, hr⟩ := List.mem_flatMap.1 hu
  simp [Rep.cells] at hr
  rcases hr with rfl | rfl <;> rfl
theorem reads_rep {w : World} {A : Option Addr} {l : List Rep} (h : RdRep w w.heap.size A l) : Reads w w.heap.size 2 A l.length (l.flatMap Rep.cells) := ⟨cells2_length l, fun hn => by
  obtain ⟨b, o, rfl, hb, hc⟩ := h hn
  exact ⟨_, rfl, hb, rep_flat (B := 0) hc⟩⟩
theorem blk_flat {w : World} {g t : Nat} {cs : Array Value} (h : Blk w g t cs) : ∀ j u, cs.toList[j]? = some u → w.cell? ((⟨g, 0, none⟩ : Addr).add j) = some u := fun j u hu => by
  rw [addr_add_none, Nat.zero_add, h.cell j]
  simpa using hu
theorem rHas_c (l : List ByteArray) (A : Option Addr) (c : Nat) (s : ByteArray) (w : World) (h : RdStr w w.heap.size A l) (hl : l.length ≤ 9223372036854775807) :
    Calls Tryz.prog 50 #[.slice A l.length c, .string s] w fun e w' => e = .returned (.bool (memB s l)) ∧ w = w' := by
  have H := Lib.hid h
  clear h
  go_enter Tryz.func50, Tryz.ntmps50
  go_wp2
  go_loop [5] (fun i => ∃ k : Nat, k ≤ l.length ∧ i = .int .i64 k ∧ Hid (∀ j (h : j < l.length), j < k → l[j] ≠ s)) (fun i => l.length - (intOf i).toNat)
  case atStart => exact ⟨0, Nat.zero_le _, rfl, fun j _ h => absurd h (by omega)⟩
  case round =>
    obtain ⟨k, hk, rfl, hall⟩ := hrel
    by_cases hlt : k < l.length
    · obtain ⟨b, o, rfl, hb, hc⟩ := H.out (by omega)
      have c0 := hc k hlt
      have hm := List.getElem_mem hlt
      have hnext : l[k] ≠ s → ∀ j (h : j < l.length), j < k + 1 → l[j] ≠ s := fun hq => forall_succ (p := fun r => r ≠ s) hall.out hq
      have Hm := Lib.hid hm
      have Hnext := Lib.hid hnext
      clear hc hm hnext hall
      generalize l[k] = x at c0 Hm Hnext
      by_cases e : x = s
      · have hq := Lib.hid (show true = memB s l from (memB_iff.2 (e ▸ Hm.out)).symm)
        clear Hm Hnext
        go_wp2_with fail
        go_ret
        exact ⟨ret_bool hq.out, rfl⟩
      · have hn := Lib.hid (Hnext.out e)
        have hse := str_ne e
        clear Hm Hnext e
        go_wp2_with fail
        go_round
        case rel => exact ⟨k + 1, by omega, by go_num, hn⟩
        case measure => simp [intOf]; omega
    · have hq := Lib.hid (show false = memB s l from (memB_false fun hm => by
        obtain ⟨j, hj, e⟩ := List.getElem_of_mem hm
        exact hall.out j hj (by omega) e).symm)
      clear hall
      go_wp2_with fail
      go_ret
      exact ⟨ret_bool hq.out, rfl⟩
set_option maxRecDepth 100000 in
theorem rHasReport_c (l : List Rep) (A : Option Addr) (c : Nat) (s : Rep) (w : World) (h : RdRep w w.heap.size A l) (hl : l.length ≤ 9223372036854775807) :
    Calls Tryz.prog 89 #[.slice A l.length c, s.val] w fun e w' => e = .returned (.bool (memB s l)) ∧ Below w.heap.size w w' := by
  obtain ⟨w1, hw1⟩ : ∃ w1, w1 = w.alloc (.cells #[.string s.unit, .int .i64 s.code] 32) := ⟨_, rfl⟩
  have hB1 : Below w.heap.size w w1 := by rw [hw1]; exact (Below.refl _ _).alloc (Nat.le_refl _) _
  have hbx : Blk w1 w.heap.size 32 #[.string s.unit, .int .i64 s.code] := by rw [hw1]; exact Blk.new w _ _
  have H := Lib.hid (h.below hB1)
  have HB1 := Lib.hid hB1
  have Hbx := Lib.hid hbx
  have Hw1 := Lib.hid hw1
  clear h hB1 hbx hw1
  go_enter Tryz.func89, Tryz.ntmps89
  go_wp2_with fail
  rw [← Hw1.out]
  clear Hw1
  go_loopw [5] (fun i wr => ∃ k : Nat, k ≤ l.length ∧ i = .int .i64 k ∧ Below w1.heap.size w1 wr ∧ Hid (∀ j (h : j < l.length), j < k → l[j] ≠ s)) (fun i wr => l.length - (intOf i).toNat)
  case atStart => exact ⟨0, Nat.zero_le _, rfl, Below.refl _ _, fun j _ h => absurd h (by omega)⟩
  case round =>
    obtain ⟨k, hk, rfl, hB, hall⟩ := hrel
    by_cases hlt : k < l.length
    · obtain ⟨b, o, rfl, hb, hc⟩ := (H.out.below hB) (by omega)
      obtain ⟨c0, c1⟩ := hc k hlt
      have hm := List.getElem_mem hlt
      have hnext : l[k] ≠ s → ∀ j (h : j < l.length), j < k + 1 → l[j] ≠ s := fun hq => forall_succ (p := fun r => r ≠ s) hall.out hq
      have hyb := Hbx.out.below hB Hbx.out.lt
      have r0 : wr.cell? ⟨w.heap.size, 0, none⟩ = some (.string s.unit) := hyb.cell 0
      have r1 : wr.cell? ⟨w.heap.size, 1, none⟩ = some (.int .i64 s.code) := hyb.cell 1
      have hq := fun W => rep_eql l[k] s W
      have hg := fun x y W => rep_guard l[k] s x y W
      have hi0 : (0 : Int) ≤ (k : Int) := by omega
      have hi1 : (k : Int) < (l.length : Int) := by omega
      have Hm := Lib.hid hm
      have Hnext := Lib.hid hnext
      have HB := Lib.hid hB
      clear hc hm hnext hall hyb hB
      generalize l[k] = x at *
      by_cases e : x = s
      · have hr := Lib.hid (show true = memB s l from (memB_iff.2 (e ▸ Hm.out)).symm)
        rw [decide_eq_true e] at hq
        clear Hm Hnext e
        go_wp2_with fail
        go_quiet (fail)
        go_wp2_with fail
        go_ret
        exact ⟨ret_bool hr.out, only_below (HB1.out.trans (HB.out.mono HB1.out.size))⟩
      · have hn := Lib.hid (Hnext.out e)
        rw [decide_eq_false e] at hq
        clear Hm Hnext e
        go_wp2_with fail
        go_quiet (fail)
        go_wp2_with fail
        go_roundw
        case rel => exact ⟨k + 1, by omega, by go_num, only_below HB.out, hn⟩
        case measure => simp [intOf]; omega
    · have hq := Lib.hid (show false = memB s l from (memB_false fun hm => by
        obtain ⟨j, hj, e⟩ := List.getElem_of_mem hm
        exact hall.out j hj (by omega) e).symm)
      have HB := Lib.hid hB
      clear hall hB
      go_wp2_with fail
      go_ret
      exact ⟨ret_bool hq.out, HB1.out.trans (HB.out.mono HB1.out.size)⟩
theorem free_get {L : List CsV} {out : List ByteArray} {u : ByteArray} (h : ∀ i (hi : i < L.length), L[i].c.unit = u → ∀ j (hj : j < L[i].c.excl.length), memB L[i].c.excl[j] out = true) : freeV (csOf L) out u = true := by
  refine free_iff.2 fun c hc e x hx => ?_
  obtain ⟨y, hy, rfl⟩ := List.mem_map.1 hc
  obtain ⟨i, hi, rfl⟩ := List.getElem_of_mem hy
  obtain ⟨j, hj, rfl⟩ := List.getElem_of_mem hx
  exact memB_iff.1 (h i hi e j hj)
theorem free_not {L : List CsV} {out : List ByteArray} {u : ByteArray} {i j : Nat} (hi : i < L.length) (hu : L[i].c.unit = u) (hj : j < L[i].c.excl.length) (h : memB L[i].c.excl[j] out = false) : freeV (csOf L) out u = false := by
  rw [← Bool.not_eq_true, free_iff]
  intro hf
  have := hf L[i].c (List.mem_map_of_mem (List.getElem_mem hi)) hu _ (List.getElem_mem hj)
  rw [memB_iff.2 this] at h
  cases h
set_option maxRecDepth 100000 in
theorem rFree_c (L : List CsV) (out : List ByteArray) (u : ByteArray) (A : Option Addr) (c : Nat) (A1 : Option Addr) (c1 : Nat) (w : World) (h : RdCs w w.heap.size A L) (ho : RdStr w w.heap.size A1 out) (hl : L.length ≤ 2199023255552) (hl1 : out.length ≤ 2199023255552) :
    Calls Tryz.prog 51 #[.slice A L.length c, .string u, .slice A1 out.length c1] w fun e w' => e = .returned (.bool (freeV (csOf L) out u)) ∧ w = w' := by
  have hhas := fun s => rHas_c out A1 c1 s w ho (by omega)
  have H := Lib.hid h
  have Hhas := Lib.hid hhas
  clear h ho hhas
  go_enter Tryz.func51, Tryz.ntmps51
  go_wp2_with fail
  go_loopw [7] (fun t wr => ∃ i : Nat, i ≤ L.length ∧ t = .int .i64 i ∧ wr = w ∧ Hid (∀ k (hk : k < L.length), k < i → L[k].c.unit = u → ∀ j (hj : j < L[k].c.excl.length), memB L[k].c.excl[j] out = true)) (fun t wr => L.length - (intOf t).toNat)
  case atStart => exact ⟨0, Nat.zero_le _, rfl, rfl, fun j _ h => absurd h (by omega)⟩
  case round =>
    obtain ⟨i, hi, rfl, rfl, hall⟩ := hrel
    by_cases hlt : i < L.length
    · obtain ⟨b, o, hA, hb, hc⟩ := H.out (by omega)
      subst hA
      obtain ⟨d0, d1, d2, hx⟩ := hc i hlt
      have hxl := hx.xl
      have hno := fun (hu : L[i].c.unit = u) j hj h => free_not (out := out) hlt hu (j := j) hj h
      have hyes : (L[i].c.unit = u → ∀ j (hj : j < L[i].c.excl.length), memB L[i].c.excl[j] out = true) → ∀ k (hk : k < L.length), k < i + 1 → L[k].c.unit = u → ∀ j (hj : j < L[k].c.excl.length), memB L[k].c.excl[j] out = true := fun hq k hk hk1 => by
        by_cases e : k = i
        · subst e; exact hq
        · exact hall.out k hk (by omega)
      have Hno := Lib.hid hno
      have Hyes := Lib.hid hyes
      have hxm := hx.xm
      have hxc := hx.xc
      have Hx := Lib.hid hx.x
      clear hc hx hall hno hyes
      generalize L[i] = x at *
      replace d2 : wr.cell? ⟨b, o + i * 3 + 2, none⟩ = some (.slice x.x.a x.x.n x.x.c) := d2
      rw [hxl] at d2
      have hle : x.c.excl.length ≤ 9223372036854775807 := Nat.le_trans (show x.c.excl.length ≤ maxLen by omega) (show maxLen ≤ 9223372036854775807 by decide)
      clear hxl
      go_wp2_with fail
      by_cases hun : x.c.unit = u
      · have hst := str_eq hun
        go_loopw [8] (fun t W => ∃ j : Nat, j ≤ x.c.excl.length ∧ t = .int .i64 j ∧ W = wr ∧ Hid (∀ k (hk : k < x.c.excl.length), k < j → memB x.c.excl[k] out = true)) (fun t W => x.c.excl.length - (intOf t).toNat)
        case atStart => exact ⟨0, Nat.zero_le _, rfl, rfl, fun j _ h => absurd h (by omega)⟩
        case round =>
          obtain ⟨j, hj, rfl, rfl, hdone⟩ := hrel
          by_cases hlj : j < x.c.excl.length
          · obtain ⟨be, oe, hE, hbe, hce⟩ := Hx.out (by omega)
            have f0 := hce j hlj
            rw [hE] at d2
            have hbad := Hno.out hun j hlj
            have hnx := fun (hq : memB x.c.excl[j] out = true) => (forall_succ (p := fun y => memB y out = true) hdone.out hq : ∀ k (hk : k < x.c.excl.length), k < j + 1 → memB x.c.excl[k] out = true)
            have Hbad := Lib.hid hbad
            have Hnx := Lib.hid hnx
            clear hce hbad hnx hdone
            generalize x.c.excl[j] = y at *
            cases hq : memB y out with
            | false =>
              have hr := Lib.hid (Hbad.out hq)
              have hh := Hhas.out y
              rw [hq] at hh
              have Hh := Lib.hid hh
              clear Hbad Hnx hq hh
              go_wp2_with fail
              refine Hh.out.mono ?_
              rintro e w' ⟨rfl, hw'⟩
              subst hw'
              go_wp2_with fail
              go_ret
              exact ⟨ret_bool hr.out.symm, rfl⟩
            | true =>
              have hr := Lib.hid (Hnx.out hq)
              have hh := Hhas.out y
              rw [hq] at hh
              have Hh := Lib.hid hh
              clear Hbad Hnx hq hh
              go_wp2_with fail
              refine Hh.out.mono ?_
              rintro e w' ⟨rfl, hw'⟩
              subst hw'
              go_wp2_with fail
              go_roundw
              case rel => exact ⟨j + 1, by omega, by go_num, trivial, hr⟩
              case measure => simp [intOf]; omega
          · obtain rfl : j = x.c.excl.length := by omega
            have hr := Lib.hid (Hyes.out fun _ k hk => hdone.out k hk hk)
            clear hdone
            go_wp2_with fail
            go_roundw
            case rel => exact ⟨i + 1, by omega, by go_num, trivial, hr⟩
            case measure => simp [intOf]; omega
      · have hst := str_ne hun
        have hr := Lib.hid (Hyes.out fun h => absurd h hun)
        go_loopw [8] (fun t W => t = .int .i64 0 ∧ W = wr) (fun t W => 0)
        case atStart => exact ⟨rfl, rfl⟩
        case round =>
          obtain ⟨rfl, rfl⟩ := hrel
          by_cases hz : 0 < x.c.excl.length
          · have hz1 : decide (0 < x.c.excl.length) = true := decide_eq_true hz
            have hz2 : decide ((0 : Int) < (x.c.excl.length : Int)) = true := decide_eq_true (by omega)
            go_wp2_with fail
            go_roundw
            case rel => exact ⟨i + 1, by omega, by go_num, trivial, hr⟩
            case measure => simp [intOf]; omega
          · have hz1 : decide (0 < x.c.excl.length) = false := decide_eq_false hz
            have hz2 : decide ((0 : Int) < (x.c.excl.length : Int)) = false := decide_eq_false (by omega)
            go_wp2_with fail
            go_roundw
            case rel => exact ⟨i + 1, by omega, by go_num, trivial, hr⟩
            case measure => simp [intOf]; omega
    · obtain rfl : i = L.length := by omega
      have hr := Lib.hid (free_get fun k hk => hall.out k hk hk)
      clear hall
      go_wp2_with fail
      go_ret
      exact ⟨ret_bool hr.out.symm, rfl⟩
set_option maxRecDepth 100000 in
set_option maxHeartbeats 2000000 in
theorem rHolds_c (x : CsV) (reps : List Rep) (us : List ByteArray) (A1 : Option Addr) (c1 : Nat) (A2 : Option Addr) (c2 : Nat) (w : World) (hx : x.rd w w.heap.size) (hr : RdRep w w.heap.size A1 reps) (hs : RdStr w w.heap.size A2 us)
    (hl : reps.length ≤ 2199023255552) (hu : us.length ≤ 2199023255552) :
    Calls Tryz.prog 57 #[x.val, .slice A1 reps.length c1, .slice A2 us.length c2] w fun e w' => e = .returned (.bool (holdB reps us x.c)) ∧ Below w.heap.size w w' := by
  obtain ⟨w1, hw1⟩ : ∃ w1, w1 = w.alloc (.cells #[.string x.c.unit, .slice x.n.a x.n.n x.n.c, .slice x.x.a x.x.n x.x.c] 29) := ⟨_, rfl⟩
  have hB1 : Below w.heap.size w w1 := by rw [hw1]; exact (Below.refl _ _).alloc (Nat.le_refl _) _
  have hbx : Blk w1 w.heap.size 29 #[.string x.c.unit, .slice x.n.a x.n.n x.n.c, .slice x.x.a x.x.n x.x.c] := by rw [hw1]; exact Blk.new w _ _
  have hx1 := hx.below hB1
  have hr1 := hr.below hB1
  have hs1 := hs.below hB1
  have hnl := hx.nl
  have hxl := hx.xl
  have hnm : x.c.needs.length ≤ 9223372036854775807 := Nat.le_trans (show x.c.needs.length ≤ maxLen by have := hx.nc; have := hx.nm; omega) (show maxLen ≤ 9223372036854775807 by decide)
  have hxm : x.c.excl.length ≤ 9223372036854775807 := Nat.le_trans (show x.c.excl.length ≤ maxLen by have := hx.xc; have := hx.xm; omega) (show maxLen ≤ 9223372036854775807 by decide)
  have hall : holdB reps us x.c = ((x.c.needs.all fun r => memB r reps) && (x.c.excl.all fun u => !memB u us)) := rfl
  generalize holdB reps us x.c = res at *
  have Hx := Lib.hid hx1
  have Hr := Lib.hid hr1
  have Hs := Lib.hid hs1
  have HB1 := Lib.hid hB1
  have Hall := Lib.hid hall
  rw [hnl, hxl] at hbx hw1
  have Hbx := Lib.hid hbx
  have Hw1 := Lib.hid hw1
  unfold CsV.val
  rw [hnl, hxl]
  clear hx hr hs hx1 hr1 hs1 hbx hB1 hw1 hall hnl hxl
  go_enter Tryz.func57, Tryz.ntmps57
  go_wp2_with fail
  rw [← Hw1.out]
  clear Hw1
  go_loopw [7] (fun t wr => ∃ k : Nat, k ≤ x.c.needs.length ∧ t = .int .i64 k ∧ Below w1.heap.size w1 wr ∧ Hid (∀ j (h : j < x.c.needs.length), j < k → memB x.c.needs[j] reps = true)) (fun t wr => x.c.needs.length - (intOf t).toNat)
  case atStart => exact ⟨0, Nat.zero_le _, rfl, Below.refl _ _, fun j _ h => absurd h (by omega)⟩
  case round =>
    obtain ⟨k, hk, rfl, hb, hdone⟩ := hrel
    have hyb := Hbx.out.below hb Hbx.out.lt
    by_cases hlt : k < x.c.needs.length
    · obtain ⟨bo, oo, hA, hbo, hc⟩ := (Hx.out.n.below hb) (by omega)
      obtain ⟨d0, d1⟩ := hc k hlt
      have b1 : wr.cell? ⟨w.heap.size, 1, none⟩ = some (.slice x.n.a x.c.needs.length x.n.c) := hyb.cell 1
      rw [hA] at b1
      have hbad : memB x.c.needs[k] reps = false → res = false := fun hq => by
        rw [Hall.out, List.all_eq_false.2 ⟨x.c.needs[k], List.getElem_mem hlt, by simp [hq]⟩, Bool.false_and]
      have hnext : memB x.c.needs[k] reps = true → ∀ j (h : j < x.c.needs.length), j < k + 1 → memB x.c.needs[j] reps = true := fun hq => forall_succ (p := fun r => memB r reps = true) hdone.out hq
      have hcall := rHasReport_c reps A1 c1 x.c.needs[k] wr (Hr.out.below hb) (by omega)
      have Hbad := Lib.hid hbad
      have Hnext := Lib.hid hnext
      have HBr := Lib.hid hb
      have Hcall := Lib.hid hcall
      clear hc hbad hnext hdone hb hcall hyb hA
      generalize x.c.needs[k] = r at *
      cases hq : memB r reps with
      | true =>
        have hnx := Lib.hid (Hnext.out hq)
        rw [hq] at Hcall
        clear Hbad Hnext hq
        go_wp2_with fail
        refine Hcall.out.mono ?_
        rintro e w2 ⟨rfl, hb2⟩
        have HB2 := Lib.hid (HBr.out.trans (hb2.mono HBr.out.size))
        clear hb2
        go_wp2_with fail
        go_roundw
        case rel => exact ⟨k + 1, by omega, by go_num, HB2.out, hnx⟩
        case measure => simp [intOf]; omega
      | false =>
        have hrs := Lib.hid (Hbad.out hq)
        rw [hq] at Hcall
        clear Hbad Hnext hq
        go_wp2_with fail
        refine Hcall.out.mono ?_
        rintro e w2 ⟨rfl, hb2⟩
        have HB2 := Lib.hid (HBr.out.trans (hb2.mono HBr.out.size))
        clear hb2
        go_wp2_with fail
        go_ret
        exact ⟨ret_bool hrs.out.symm, HB1.out.trans (HB2.out.mono HB1.out.size)⟩
    · obtain rfl : k = x.c.needs.length := by omega
      have hnds : (x.c.needs.all fun r => memB r reps) = true := List.all_eq_true.2 fun r hr => by
        obtain ⟨j, hj, rfl⟩ := List.mem_iff_getElem.1 hr
        exact hdone.out j hj hj
      have Hal := Lib.hid (Hall.out.trans (by rw [hnds, Bool.true_and]))
      have b1 : wr.cell? ⟨w.heap.size, 1, none⟩ = some (.slice x.n.a x.c.needs.length x.n.c) := hyb.cell 1
      have b2 : wr.cell? ⟨w.heap.size, 2, none⟩ = some (.slice x.x.a x.c.excl.length x.x.c) := hyb.cell 2
      have HBw := Lib.hid (HB1.out.trans (hb.mono HB1.out.size))
      have hxx := Lib.hid (Hx.out.x.below hb)
      have Hs9 := Lib.hid (Hs.out.below hb)
      clear hdone hb hnds hyb Hx Hr Hs Hbx HB1
      go_wp2_with fail
      generalize wr = w4 at *
      go_loopw [8] (fun t wr => ∃ k : Nat, k ≤ x.c.excl.length ∧ t = .int .i64 k ∧ wr = w4 ∧ Hid (∀ j (h : j < x.c.excl.length), j < k → memB x.c.excl[j] us = false)) (fun t wr => x.c.excl.length - (intOf t).toNat)
      case atStart => exact ⟨0, Nat.zero_le _, rfl, rfl, fun j _ h => absurd h (by omega)⟩
      case round =>
        obtain ⟨k, hk, rfl, rfl, hdone⟩ := hrel
        by_cases hlt : k < x.c.excl.length
        · obtain ⟨bo, oo, hA, hbo, hc⟩ := hxx.out (by omega)
          have d0 := hc k hlt
          rw [hA] at b2
          have hbad : memB x.c.excl[k] us = true → res = false := fun hq => by
            rw [Hal.out, List.all_eq_false.2 ⟨x.c.excl[k], List.getElem_mem hlt, by simp [hq]⟩]
          have hnext : memB x.c.excl[k] us = false → ∀ j (h : j < x.c.excl.length), j < k + 1 → memB x.c.excl[j] us = false := fun hq => forall_succ (p := fun r => memB r us = false) hdone.out hq
          have hhas := rHas_c us A2 c2 x.c.excl[k] wr Hs9.out (by omega)
          have Hbad := Lib.hid hbad
          have Hnext := Lib.hid hnext
          have Hhas := Lib.hid hhas
          clear hc hbad hnext hdone hhas hA
          generalize x.c.excl[k] = u at *
          cases hq : memB u us with
          | true =>
            rw [hq] at Hhas
            have hrs := Lib.hid (Hbad.out hq)
            clear Hbad Hnext hq
            go_wp2_with fail
            refine Hhas.out.mono ?_
            rintro e w' ⟨rfl, hw'⟩
            subst hw'
            go_wp2_with fail
            go_ret
            exact ⟨ret_bool hrs.out.symm, HBw.out⟩
          | false =>
            rw [hq] at Hhas
            have hnx := Lib.hid (Hnext.out hq)
            clear Hbad Hnext hq
            go_wp2_with fail
            refine Hhas.out.mono ?_
            rintro e w' ⟨rfl, hw'⟩
            subst hw'
            go_wp2_with fail
            go_roundw
            case rel => exact ⟨k + 1, by omega, by go_num, trivial, hnx⟩
            case measure => simp [intOf]; omega
        · obtain rfl : k = x.c.excl.length := by omega
          have hrs := Lib.hid (Hal.out.trans (List.all_eq_true.2 fun u hu => by
            obtain ⟨j, hj, rfl⟩ := List.mem_iff_getElem.1 hu
            rw [hdone.out j hj hj]; rfl))
          go_wp2_with fail
          go_ret
          exact ⟨ret_bool hrs.out.symm, HBw.out⟩
set_option maxRecDepth 100000 in
set_option maxHeartbeats 2000000 in
theorem rFirst_c (L : List CsV) (u : ByteArray) (reps : List Rep) (us : List ByteArray) (A : Option Addr) (c : Nat) (A1 : Option Addr) (c1 : Nat) (A2 : Option Addr) (c2 : Nat) (w : World) (h : RdCs w w.heap.size A L) (hr : RdRep w w.heap.size A1 reps) (hs : RdStr w w.heap.size A2 us)
    (hlL : L.length ≤ 2199023255552) (hl : reps.length ≤ 2199023255552) (hu : us.length ≤ 2199023255552) :
    Calls Tryz.prog 52 #[.slice A L.length c, .string u, .slice A1 reps.length c1, .slice A2 us.length c2] w fun e w' => e = .returned (.int .i64 (firstI L reps us u)) ∧ Below w.heap.size w w' := by
  have H := Lib.hid h
  have Hr := Lib.hid hr
  have Hs := Lib.hid hs
  clear h hr hs
  go_enter Tryz.func52, Tryz.ntmps52
  go_wp2_with fail
  go_loopw [9] (fun t wr => ∃ k : Nat, k ≤ L.length ∧ t = .int .i64 k ∧ Below w.heap.size w wr ∧ Hid (∀ j (h : j < L.length), j < k → (decide (L[j].c.unit = u) && holdB reps us L[j].c) = false)) (fun t wr => L.length - (intOf t).toNat)
  case atStart => exact ⟨0, Nat.zero_le _, rfl, Below.refl _ _, fun j _ h => absurd h (by omega)⟩
  case round =>
    obtain ⟨k, hk, rfl, hb, hdone⟩ := hrel
    by_cases hlt : k < L.length
    · obtain ⟨bo, oo, hA, hbo, hc⟩ := (H.out.below hb) (by omega)
      subst hA
      obtain ⟨d0, d1, d2, hx⟩ := hc k hlt
      have hyes : (decide (L[k].c.unit = u) && holdB reps us L[k].c) = true → firstI L reps us u = (k : Int) := fun hq => by
        have e : firstN L reps us u = k := by
          unfold firstN
          rw [List.findIdx_eq hlt]
          exact ⟨hq, fun j hj => hdone.out j (by omega) hj⟩
        unfold firstI
        rw [e, if_pos hlt]
      have hno : (decide (L[k].c.unit = u) && holdB reps us L[k].c) = false → ∀ j (h : j < L.length), j < k + 1 → (decide (L[j].c.unit = u) && holdB reps us L[j].c) = false := fun hq => forall_succ (p := fun x : CsV => (decide (x.c.unit = u) && holdB reps us x.c) = false) hdone.out hq
      have hcall := rHolds_c L[k] reps us A1 c1 A2 c2 wr hx (Hr.out.below hb) (Hs.out.below hb) hl hu
      have Hyes := Lib.hid hyes
      have Hno := Lib.hid hno
      have Hcall := Lib.hid hcall
      have HBr := Lib.hid hb
      clear hc hyes hno hcall hdone hx hb
      generalize L[k] = x at *
      replace d1 : wr.cell? ⟨bo, oo + k * 3 + 1, none⟩ = some (.slice x.n.a x.n.n x.n.c) := d1
      replace d2 : wr.cell? ⟨bo, oo + k * 3 + 2, none⟩ = some (.slice x.x.a x.x.n x.x.c) := d2
      by_cases hun : x.c.unit = u
      · have hst := str_eq hun
        rw [decide_eq_true hun, Bool.true_and] at Hyes Hno
        generalize hfe : firstI L reps us u = fi at *
        have Hfe := Lib.hid hfe
        clear hfe
        cases hq : holdB reps us x.c with
        | true =>
          have hrs := Lib.hid (Hyes.out hq)
          rw [hq] at Hcall
          clear Hyes Hno hq hun
          go_wp2_with fail
          refine Hcall.out.mono ?_
          rintro e w2 ⟨rfl, hb2⟩
          have HB2 := Lib.hid (HBr.out.trans (hb2.mono HBr.out.size))
          clear hb2
          go_wp2_with fail
          go_ret
          exact ⟨(congrArg (fun z => Ending.returned (.int .i64 z)) (Hfe.out.trans hrs.out)).symm, HB2.out⟩
        | false =>
          have hnx := Lib.hid (Hno.out hq)
          rw [hq] at Hcall
          clear Hyes Hno hq hun
          go_wp2_with fail
          refine Hcall.out.mono ?_
          rintro e w2 ⟨rfl, hb2⟩
          have HB2 := Lib.hid (HBr.out.trans (hb2.mono HBr.out.size))
          clear hb2
          go_wp2_with fail
          go_roundw
          case rel => exact ⟨k + 1, by omega, by go_num, HB2.out, hnx⟩
          case measure => simp [intOf]; omega
      · have hst := str_ne hun
        have hnx := Lib.hid (Hno.out (by rw [decide_eq_false hun, Bool.false_and]))
        clear Hyes Hno Hcall hun
        go_wp2_with fail
        go_roundw
        case rel => exact ⟨k + 1, by omega, by go_num, HBr.out, hnx⟩
        case measure => simp [intOf]; omega
    · obtain rfl : k = L.length := by omega
      have hfi : firstI L reps us u = -1 := by
        unfold firstI
        rw [if_neg]
        intro hf
        unfold firstN at hf
        rw [List.findIdx_lt_length] at hf
        obtain ⟨x, hx, hq⟩ := hf
        obtain ⟨j, hj, rfl⟩ := List.getElem_of_mem hx
        rw [hdone.out j hj hj] at hq
        cases hq
      have Hfi := Lib.hid hfi
      have HBr := Lib.hid hb
      clear hdone hfi hb
      generalize hfe : firstI L reps us u = fi at *
      have Hfe := Lib.hid hfe
      clear hfe
      go_wp2_with fail
      go_ret
      exact ⟨(congrArg (fun z => Ending.returned (.int .i64 z)) (Hfe.out.trans Hfi.out)).symm, HBr.out⟩
end Go.Proofs.YtknojjlfgjkbiaaGreatDoor
/- The reference's Order and Accused. -/
namespace Go.Proofs.YtknojjlfgjkbiaaGreatDoor
open Go.ChangeShapes Go.WideShapes Go.ChangeAt Go.RowKit
attribute [local go_sem] Oper.semAt_some

def lenV : Value → Nat
  | .slice _ n _ => n
  | _ => 0
/-- the smallest index, among the last k, of a cause that fits. -/
def nextTo (q : CsV → Bool) (L : List CsV) : Nat → Int
  | 0 => -1
  | k + 1 => match L[L.length - 1 - k]? with
    | some x => if q x = true then ((L.length - 1 - k : Nat) : Int) else nextTo q L k
    | none => nextTo q L k
theorem next_to (q : CsV → Bool) (L : List CsV) : ∀ k, k ≤ L.length →
    (nextTo q L k = -1 ∧ ∀ j (h : j < L.length), L.length - k ≤ j → q L[j] = false) ∨ ∃ i, ∃ h : i < L.length, nextTo q L k = (i : Int) ∧ L.length - k ≤ i ∧ q L[i] = true ∧ ∀ j (hj : j < i), L.length - k ≤ j → q L[j] = false
  | 0, _ => .inl ⟨rfl, fun j h hj => absurd hj (by omega)⟩
  | k + 1, hk => by
    have ih := next_to q L k (by omega)
    have hi : L.length - 1 - k < L.length := by omega
    simp only [nextTo]
    rw [List.getElem?_eq_getElem hi]
    dsimp only
    cases hq : q L[L.length - 1 - k] with
    | true =>
      rw [if_pos rfl]
      exact .inr ⟨L.length - 1 - k, hi, rfl, by omega, hq, fun j hj hle => absurd hj (by omega)⟩
    | false =>
      rw [if_neg (show ¬ (false = true) by decide)]
      rcases ih with ⟨h1, h2⟩ | ⟨i, h, h1, h2, h3, h4⟩
      · refine .inl ⟨h1, fun j hj hle => ?_⟩
        by_cases e : j = L.length - 1 - k
        · subst e; exact hq
        · exact h2 j hj (by omega)
      · refine .inr ⟨i, h, h1, by omega, h3, fun j hj hle => ?_⟩
        by_cases e : j = L.length - 1 - k
        · subst e; exact hq
        · exact h4 j hj (by omega)
theorem nextTo_succ (q : CsV → Bool) (L : List CsV) (k : Nat) (i : Nat) (hi : i < L.length) (hk : i = L.length - 1 - k) : nextTo q L (k + 1) = if q L[i] = true then (i : Int) else nextTo q L k := by
  subst hk
  simp only [nextTo]
  rw [List.getElem?_eq_getElem hi]
/-- a cause that can be listed next. -/
def fitN (L : List CsV) (out : List ByteArray) (x : CsV) : Bool := !memB x.c.unit out && freeV (csOf L) out x.c.unit
theorem next_all (L : List CsV) (out : List ByteArray) : (nextTo (fitN L out) L L.length = -1 ∧ nextV (csOf L) out = none) ∨ ∃ i, ∃ h : i < L.length, nextTo (fitN L out) L L.length = (i : Int) ∧ nextV (csOf L) out = some L[i].c.unit := by
  rcases next_to (fitN L out) L L.length (Nat.le_refl _) with ⟨h1, h2⟩ | ⟨i, h, h1, h2, h3, h4⟩
  · refine .inl ⟨h1, ?_⟩
    unfold nextV
    rw [Option.map_eq_none_iff, List.find?_eq_none]
    intro c hc
    obtain ⟨x, hx, rfl⟩ := List.mem_map.1 hc
    obtain ⟨j, hj, rfl⟩ := List.getElem_of_mem hx
    show ¬ (fitN L out L[j] = true)
    rw [h2 j hj (by omega)]
    simp
  · refine .inr ⟨i, h, h1, ?_⟩
    unfold nextV
    rw [Option.map_eq_some_iff]
    refine ⟨L[i].c, ?_, rfl⟩
    rw [List.find?_eq_some_iff_getElem]
    refine ⟨h3, i, by simpa [csOf] using h, by simp [csOf], fun j hj => ?_⟩
    have := h4 j hj (by omega)
    have e : (csOf L)[j]'(by simp [csOf]; omega) = L[j].c := by simp [csOf]
    rw [e]
    show (!fitN L out L[j]) = true
    rw [this]
    rfl
def ordE (L : List CsV) : List ByteArray := if okV (csOf L) = true then orderV (csOf L) else []
theorem ordE_acc (L : List CsV) (reps : List Rep) : accL (csOf L) reps (ordE L) [] = if okV (csOf L) = true then accV (csOf L) reps else [] := by
  unfold ordE
  split
  · rfl
  · rfl
theorem csOf_len (L : List CsV) : (csOf L).length = L.length := by simp [csOf]
set_option maxRecDepth 100000 in
set_option maxHeartbeats 4000000 in
theorem rOrder_c (L : List CsV) (A : Option Addr) (c : Nat) (w : World) (h : RdCs w w.heap.size A L) (hl : L.length ≤ 100000) :
    Calls Tryz.prog 21 #[.slice A L.length c] w fun e w' => ∃ A' c', e = .returned (.tuple #[.slice A' (ordE L).length c', .bool (okV (csOf L))]) ∧ RdStr w' w'.heap.size A' (ordE L) ∧ Below w.heap.size w w' := by
  have H := Lib.hid h
  obtain ⟨i0, hi0, hz0, hz1, hz2⟩ := info_parts info9
  have hll := len_units (csOf L)
  rw [csOf_len] at hll
  clear h
  go_enter Tryz.func21, Tryz.ntmps21
  go_wp2_with fail
  go_loopw [4] (fun v wr => ∃ out : List ByteArray, OrdOk (csOf L) out ∧ Hid (orderL (csOf L) (L.length + 1 - out.length) out = orderV (csOf L)) ∧ Below w.heap.size w wr ∧ wr.ownsRow w.heap.size 9 1 v out.length (out.map Value.string)) (fun v wr => L.length + 1 - lenV v)
  case atStart => exact ⟨[], OrdOk.nil _, Lib.hid (by show orderL _ (L.length + 1) [] = _; unfold orderV; rw [csOf_len]), Below.refl _ _, World.ownsRow_nil _ _ _ _⟩
  case round =>
    obtain ⟨out, hok, hord, hB, hown⟩ := hrel
    obtain ⟨Av, cv, rfl, _⟩ := own_caps hown
    have hol : out.length ≤ L.length := Nat.le_trans (len_le _ _ hok.nodup hok.sub) hll
    have Hok := Lib.hid hok
    have HB := Lib.hid hB
    have Hown := Lib.hid hown
    have Hrd := Lib.hid (rdStr_of_own hown)
    have hBz := hB.size
    clear hok hB hown
    go_wp2_with fail
    generalize wr = w1 at *
    go_loopw [5, 6] (fun v t wr => ∃ k : Nat, k ≤ L.length ∧ t = .int .i64 ((L.length : Int) - 1 - k) ∧ v = .int .i64 (nextTo (fitN L out) L k) ∧ wr = w1) (fun _ t wr => (intOf t + 1).toNat)
    case atStart => exact ⟨0, Nat.zero_le _, by simp, rfl, rfl⟩
    case round =>
      obtain ⟨k, hk, rfl, rfl, rfl⟩ := hrel
      by_cases hlt : k < L.length
      · obtain ⟨i, hi⟩ : ∃ i : Nat, i = L.length - 1 - k := ⟨_, rfl⟩
        have hie : (L.length : Int) - 1 - k = (i : Int) := by omega
        have hil : i < L.length := by omega
        obtain ⟨bo, oo, hA, hbo, hc⟩ := (H.out.below HB.out) (by omega)
        subst hA
        obtain ⟨d0, d1, d2, _⟩ := hc i hil
        have hst := nextTo_succ (fitN L out) L k i hil hi
        have hft : fitN L out L[i] = (!memB L[i].c.unit out && freeV (csOf L) out L[i].c.unit) := rfl
        have hhas := rHas_c out Av cv L[i].c.unit wr Hrd.out (by omega)
        have hfree := rFree_c L out L[i].c.unit (some ⟨bo, oo, none⟩) c Av cv wr (H.out.below HB.out) Hrd.out (by omega) (by omega)
        have Hst := Lib.hid hst
        have Hft := Lib.hid hft
        have Hhas := Lib.hid hhas
        have Hfree := Lib.hid hfree
        have Hie := Lib.hid hie
        rw [hie]
        clear hc hst hft hhas hfree hi hie
        generalize fitN L out L[i] = fi at *
        generalize L[i] = x at *
        generalize nextTo (fitN L out) L k = nk at *
        generalize freeV (csOf L) out x.c.unit = fr at *
        cases hq : memB x.c.unit out with
        | true =>
          rw [hq] at Hhas Hft
          have hn : Hid (nextTo (fitN L out) L (k + 1) = nk) := Lib.hid (by rw [Hst.out, Hft.out]; simp)
          clear Hst Hft Hfree hq
          go_wp2_with fail
          refine Hhas.out.mono ?_
          rintro e w' ⟨rfl, hw'⟩
          subst hw'
          go_wp2_with fail
          go_roundw
          case rel => exact ⟨k + 1, by omega, by have := Hie.out; go_num, by rw [hn.out], trivial⟩
          case measure => simp [intOf]; try omega
        | false =>
          rw [hq] at Hhas Hft
          cases fr with
          | true =>
            have hn : Hid (nextTo (fitN L out) L (k + 1) = (i : Int)) := Lib.hid (by rw [Hst.out, Hft.out]; simp)
            clear Hst Hft hq
            go_wp2_with fail
            refine Hhas.out.mono ?_
            rintro e w' ⟨rfl, hw'⟩
            subst hw'
            go_wp2_with fail
            refine Hfree.out.mono ?_
            rintro e w' ⟨rfl, hw'⟩
            subst hw'
            go_wp2_with fail
            go_roundw
            case rel => exact ⟨k + 1, by omega, by have := Hie.out; go_num, by rw [hn.out], trivial⟩
            case measure => simp [intOf]; try omega
          | false =>
            have hn : Hid (nextTo (fitN L out) L (k + 1) = nk) := Lib.hid (by rw [Hst.out, Hft.out]; simp)
            clear Hst Hft hq
            go_wp2_with fail
            refine Hhas.out.mono ?_
            rintro e w' ⟨rfl, hw'⟩
            subst hw'
            go_wp2_with fail
            refine Hfree.out.mono ?_
            rintro e w' ⟨rfl, hw'⟩
            subst hw'
            go_wp2_with fail
            go_roundw
            case rel => exact ⟨k + 1, by omega, by have := Hie.out; go_num, by rw [hn.out], trivial⟩
            case measure => simp [intOf]; try omega
      · obtain rfl : k = L.length := by omega
        have hm1 : (L.length : Int) - 1 - (L.length : Int) = -1 := by omega
        rw [hm1]
        clear hm1
        rcases next_all L out with ⟨h1, h2⟩ | ⟨i, hi, h1, h2⟩
        · -- the end of the list
          rw [h1]
          have hout : out = orderV (csOf L) := by
            rw [← hord.out]
            obtain ⟨f, hf⟩ : ∃ f, L.length + 1 - out.length = f + 1 := ⟨L.length - out.length, by omega⟩
            rw [hf]
            simp only [orderL, h2]
          have Hout := Lib.hid hout
          have hrf := ref_ok (csOf L)
          have Hrf := Lib.hid hrf
          clear h1 h2 hout hrf
          go_wp2_with fail
          generalize wr = w2 at *
          go_loopw [7] (fun t wr => ∃ k : Nat, k ≤ L.length ∧ t = .int .i64 k ∧ wr = w2 ∧ Hid (∀ j (h : j < L.length), j < k → memB L[j].c.unit out = true)) (fun t wr => L.length - (intOf t).toNat)
          case atStart => exact ⟨0, Nat.zero_le _, rfl, rfl, fun j _ h => absurd h (by omega)⟩
          case round =>
            obtain ⟨k, hk, rfl, rfl, hdone⟩ := hrel
            by_cases hlt : k < L.length
            · obtain ⟨bo, oo, hA, hbo, hc⟩ := (H.out.below HB.out) (by omega)
              subst hA
              obtain ⟨d0, d1, d2, _⟩ := hc k hlt
              have hhas := rHas_c out Av cv L[k].c.unit wr Hrd.out (by omega)
              have hbad : memB L[k].c.unit out = false → okV (csOf L) = false := fun hq => by
                rw [← Hrf.out, ← Hout.out, List.all_eq_false]
                exact ⟨L[k].c, List.mem_map_of_mem (List.getElem_mem hlt), by show ¬ (memB L[k].c.unit out = true); rw [hq]; simp⟩
              have hnx : memB L[k].c.unit out = true → ∀ j (h : j < L.length), j < k + 1 → memB L[j].c.unit out = true := fun hq => forall_succ (p := fun x : CsV => memB x.c.unit out = true) hdone.out hq
              have Hhas := Lib.hid hhas
              have Hbad := Lib.hid hbad
              have Hnx := Lib.hid hnx
              clear hc hhas hbad hnx hdone
              generalize L[k] = x at *
              cases hq : memB x.c.unit out with
              | true =>
                have hn := Lib.hid (Hnx.out hq)
                rw [hq] at Hhas
                clear Hbad Hnx hq
                go_wp2_with fail
                refine Hhas.out.mono ?_
                rintro e w' ⟨rfl, hw'⟩
                subst hw'
                go_wp2_with fail
                go_roundw
                case rel => exact ⟨k + 1, by omega, by go_num, trivial, hn⟩
                case measure => simp [intOf]; omega
              | false =>
                have hn := Lib.hid (Hbad.out hq)
                rw [hq] at Hhas
                clear Hbad Hnx hq
                go_wp2_with fail
                refine Hhas.out.mono ?_
                rintro e w' ⟨rfl, hw'⟩
                subst hw'
                go_wp2_with fail
                refine bodyPost_ret (results_tmp2 rfl _ _ _) rfl ?_
                unfold ordE
                rw [hn.out]
                simp only [Bool.false_eq_true, if_false]
                exact ⟨none, 0, rfl, RdStr.nil, HB.out⟩
            · obtain rfl : k = L.length := by omega
              have hyes : okV (csOf L) = true := by
                rw [← Hrf.out, ← Hout.out, List.all_eq_true]
                intro c hc
                obtain ⟨x, hx, rfl⟩ := List.mem_map.1 hc
                obtain ⟨j, hj, rfl⟩ := List.getElem_of_mem hx
                exact hdone.out j hj hj
              have Hyes := Lib.hid hyes
              clear hdone hyes
              go_wp2_with fail
              refine bodyPost_ret (results_tmp2 rfl _ _ _) rfl ?_
              unfold ordE
              rw [Hyes.out]
              simp only [if_true]
              rw [← Hout.out]
              exact ⟨Av, cv, rfl, Hrd.out, HB.out⟩
        · -- one more
          rw [h1]
          obtain ⟨bo, oo, hA, hbo, hc⟩ := (H.out.below HB.out) (by omega)
          subst hA
          obtain ⟨d0, d1, d2, _⟩ := hc i hi
          obtain ⟨hs1, hs2, hs3⟩ := next_some h2
          have hok2 := Hok.out.push hs1 hs2 hs3
          have hol2 : (out ++ [L[i].c.unit]).length ≤ L.length := Nat.le_trans (len_le _ _ hok2.nodup hok2.sub) hll
          have hord2 : orderL (csOf L) (L.length + 1 - (out ++ [L[i].c.unit]).length) (out ++ [L[i].c.unit]) = orderV (csOf L) := by
            rw [← hord.out]
            simp at hol2 ⊢
            obtain ⟨f, hf⟩ : ∃ f, L.length + 1 - out.length = f + 1 := ⟨L.length - out.length, by omega⟩
            rw [hf, show L.length - out.length = f by omega]
            simp only [orderL, h2]
          have hol3 : out.length + 1 ≤ L.length := by simpa using hol2
          have Hok2 := Lib.hid hok2
          have Hord2 := Lib.hid hord2
          clear h1 h2 hs1 hs2 hs3 hok2 hol2 hord2 hc hord
          generalize L[i].c.unit = u at *
          have hi0' : (0 : Int) ≤ (i : Int) := by omega
          go_wp2_with (at_builtin; refine wpList_append_own _ rfl (.tmp 36) (.tmp 42) 24 rfl w.heap.size 9 i0 (.string ⟨#[]⟩) 1 16 Tryz.underlying24 hi0 hz0 hz1 hz2 rfl (by decide) _ _ _ rfl (Hown.out.alloc _) ⟨wr.heap.size, 0, none⟩ 1 1 [.string u] rfl rfl ?c1 ?c2 ?c3 ?c4 ?c5 ?_)
          case c1 =>
            intro j u' hj
            rcases j with _ | j
            · simp at hj
              subst hj
              exact (Blk.new wr 9 #[.string u]).cell 0
            · simp at hj
          case c2 => simp [Value.oneCell']
          case c3 => unfold maxLen; omega
          case c4 => omega
          case c5 => simp; omega
          intro v5 w5 hown5 hg5 _
          have hb5 := (HB.out.alloc hBz (.cells #[.string u] 9)).grown hg5 (by simp; omega) (fun g hg => (Hown.out.lt g hg).1)
          obtain ⟨A5, c5, rfl, _⟩ := own_caps hown5
          have HR := Lib.hid (And.intro hb5 hown5)
          clear hown5 hg5 hb5
          go_wp2_with fail
          go_roundw
          case rel => exact ⟨out ++ [u], Hok2.out, Hord2, HR.out.1, by simpa using HR.out.2⟩
          case measure => simp [lenV]; omega
theorem first_ge {L : List CsV} {reps : List Rep} {us : List ByteArray} {u : ByteArray} : decide (firstI L reps us u ≥ 0) = hitV (csOf L) reps us u := by
  rw [Bool.eq_iff_iff, decide_eq_true_eq, ← first_hit]
  unfold firstI
  split
  · exact ⟨fun _ => by assumption, fun _ => by omega⟩
  · exact ⟨fun h => absurd h (by omega), fun h => absurd h (by assumption)⟩
set_option maxRecDepth 100000 in
set_option maxHeartbeats 4000000 in
theorem rAccused_c (L : List CsV) (reps : List Rep) (A : Option Addr) (c : Nat) (A1 : Option Addr) (c1 : Nat) (w : World) (h : RdCs w w.heap.size A L) (hr : RdRep w w.heap.size A1 reps) (hl : L.length ≤ 100000) (hl2 : reps.length ≤ 2199023255552) :
    Calls Tryz.prog 22 #[.slice A L.length c, .slice A1 reps.length c1] w fun e w' => ∃ A' c' acc, e = .returned (.tuple #[.slice A' acc.length c', .bool (okV (csOf L))]) ∧ acc = (if okV (csOf L) = true then accV (csOf L) reps else []) ∧ RdStr w' w'.heap.size A' acc ∧ Below w.heap.size w w' := by
  have ho := rOrder_c L A c w h hl
  have hea := ordE_acc L reps
  have hol : (ordE L).length ≤ L.length := by
    unfold ordE
    split
    · have := order_len (csOf L); have := len_units (csOf L); rw [csOf_len] at this; omega
    · simp
  have H := Lib.hid h
  have Hr := Lib.hid hr
  have Ho := Lib.hid ho
  have Hea := Lib.hid hea
  obtain ⟨i0, hi0, hz0, hz1, hz2⟩ := info_parts info9
  clear h hr ho hea
  generalize (if okV (csOf L) = true then accV (csOf L) reps else []) = acc at *
  generalize ordE L = ord at *
  generalize okV (csOf L) = okb at *
  go_enter Tryz.func22, Tryz.ntmps22
  go_wp2_with fail
  refine Ho.out.mono ?_
  rintro e w1 ⟨Ao, co, rfl, hro, hb1⟩
  have Hro := Lib.hid hro
  have HB1 := Lib.hid hb1
  clear Ho hro hb1
  go_wp2_with fail
  go_loopw [8, 9] (fun v t wr => ∃ k : Nat, k ≤ ord.length ∧ t = .int .i64 k ∧ Below w1.heap.size w1 wr ∧ wr.ownsRow w1.heap.size 9 1 v (accL (csOf L) reps (ord.take k) []).length ((accL (csOf L) reps (ord.take k) []).map Value.string)) (fun _ t wr => ord.length - (intOf t).toNat)
  case atStart => exact ⟨0, Nat.zero_le _, rfl, Below.refl _ _, World.ownsRow_nil _ _ _ _⟩
  case round =>
    obtain ⟨k, hk, rfl, hB, hown⟩ := hrel
    obtain ⟨Av, cv, rfl, _⟩ := own_caps hown
    by_cases hlt : k < ord.length
    · obtain ⟨bo, oo, hA, hbo, hc⟩ := (Hro.out.below hB) (by omega)
      subst hA
      have d0 := hc k hlt
      have hst : accL (csOf L) reps (ord.take (k + 1)) [] = if hitV (csOf L) reps (accL (csOf L) reps (ord.take k) []) ord[k] = true then accL (csOf L) reps (ord.take k) [] ++ [ord[k]] else accL (csOf L) reps (ord.take k) [] := by
        rw [List.take_succ_eq_append_getElem hlt, accL_append]; rfl
      have hal : (accL (csOf L) reps (ord.take k) []).length ≤ k := by
        have := accL_len (csOf L) reps (ord.take k) []
        simp at this
        omega
      have hf := rFirst_c L ord[k] reps (accL (csOf L) reps (ord.take k) []) A c A1 c1 Av cv wr (H.out.below (HB1.out.trans (hB.mono HB1.out.size))) (Hr.out.below (HB1.out.trans (hB.mono HB1.out.size))) (rdStr_of_own hown) (by omega) hl2 (by omega)
      have hge := first_ge (L := L) (reps := reps) (us := accL (csOf L) reps (ord.take k) []) (u := ord[k])
      have Hst := Lib.hid hst
      have Hf := Lib.hid hf
      have Hown := Lib.hid hown
      have HB := Lib.hid hB
      clear hc hst hf hown hB
      generalize accL (csOf L) reps (ord.take k) [] = s at *
      generalize ord[k] = u at *
      generalize firstI L reps s u = fi at *
      generalize hitV (csOf L) reps s u = hb at *
      go_wp2_with fail
      refine Hf.out.mono ?_
      rintro e w2 ⟨rfl, hb2⟩
      have HB2 := Lib.hid (HB.out.trans (hb2.mono HB.out.size))
      have Hown2 := Lib.hid (own_keep Hown.out (below_grown (row := none) hb2) (fun r e => by cases e))
      have hz2' := (HB.out.trans (hb2.mono HB.out.size)).size
      have d2 : w2.cell? ⟨bo, oo + k, none⟩ = some (.string u) := below_cell0 hb2 d0
      clear hb2 Hown HB Hf
      cases hb with
      | false =>
        have hn : Hid (accL (csOf L) reps (ord.take (k + 1)) [] = s) := Lib.hid (Hst.out.trans (if_neg (by simp)))
        clear Hst
        go_wp2_with fail
        go_roundw
        case rel => exact ⟨k + 1, by omega, by go_num, HB2.out, by rw [hn.out]; exact Hown2.out⟩
        case measure => simp [intOf]; omega
      | true =>
        have hn : Hid (accL (csOf L) reps (ord.take (k + 1)) [] = s ++ [u]) := Lib.hid (Hst.out.trans (if_pos rfl))
        clear Hst
        go_wp2_with (at_builtin; refine wpList_append_own _ rfl (.tmp 30) (.tmp 35) 24 rfl w1.heap.size 9 i0 (.string ⟨#[]⟩) 1 16 Tryz.underlying24 hi0 hz0 hz1 hz2 rfl (by decide) _ _ _ rfl (Hown2.out.alloc _) ⟨w2.heap.size, 0, none⟩ 1 1 [.string u] rfl rfl ?c1 ?c2 ?c3 ?c4 ?c5 ?_)
        case c1 =>
          intro j u' hj
          rcases j with _ | j
          · simp at hj
            subst hj
            exact (Blk.new w2 9 #[.string u]).cell 0
          · simp at hj
        case c2 => simp [Value.oneCell']
        case c3 => unfold maxLen; omega
        case c4 => omega
        case c5 => simp; omega
        intro v5 w5 hown5 hg5 _
        have hb5 := (HB2.out.alloc hz2' (.cells #[.string u] 9)).grown hg5 (by simp; omega) (fun g hg => (Hown2.out.lt g hg).1)
        have HR := Lib.hid (And.intro hb5 hown5)
        clear hown5 hg5 hb5
        go_wp2_with fail
        go_roundw
        case rel => exact ⟨k + 1, by omega, by go_num, HR.out.1, by rw [hn.out]; simpa using HR.out.2⟩
        case measure => simp [intOf]; omega
    · obtain rfl : k = ord.length := by omega
      have hel : accL (csOf L) reps (ord.take ord.length) [] = acc := by rw [List.take_length]; exact Hea.out
      rw [hel] at hown ⊢
      have HR := Lib.hid (And.intro (rdStr_of_own hown) (HB1.out.trans (hB.mono HB1.out.size)))
      clear hown hB
      go_wp2_with fail
      refine bodyPost_ret (results_tmp2 rfl _ _ _) rfl ?_
      exact ⟨Av, cv, acc, rfl, rfl, HR.out.1, HR.out.2⟩
end Go.Proofs.YtknojjlfgjkbiaaGreatDoor
