/- Texts wS0 wS1 wS2 wT1 wX0 wE0 wX1 wA1 wC0 wFi, joined. -/
import Derived.RangeFuncNested
import Derived.Deep.Slices
import Derived.Deep.Fields
import Derived.ChangeSame
import Derived.Lib.SmallJoins
import Derived.Test.YtlmbffnmjfbglabG0
import Derived.Test.YtlmbffnmjfbglabwSort
set_option linter.unusedSimpArgs false
set_option linter.unusedVariables false
/- slices.SortFunc at windows: what the row holds behind it. -/
namespace Go.Proofs.Ytlmbffnmjfbglab
open Go.ChangeShapes Go.WideShapes Go.ChangeAt Go.RowKit Go.Sort

/-- Block g is a row of capacity cap whose first elements are the windows l. -/
def Row (w : World) (g cap : Nat) (l : List Win) : Prop := ∃ cur, w.heap[g]? = some (.cells cur 107 (0, 0)) ∧ l.length ≤ cap ∧ cap ≤ maxLen ∧ cur.size = cap * 3 ∧ ∀ i (h : i < l.length), cur[i * 3]? = some (.int .i64 l[i].part) ∧ cur[i * 3 + 1]? = some (.int .i64 l[i].start) ∧ cur[i * 3 + 2]? = some (.int .i64 l[i].len)

theorem flat_get (l : List Win) (t : Nat) (ht : t < l.length * 3) : (flatK (cellsG Win.tri) 3 l.toArray)[t]! = ((cellsG Win.tri) l[t / 3])[t % 3]'(by simp [cellsG]; omega) := by
  rw [get_flatK (cellsG Win.tri) 3 l.toArray t (by simpa using ht)]
  have h1 : t / 3 < l.length := by omega
  rw [show (l.toArray)[t / 3]! = l[t / 3] from by simp [h1]]
  rw [getElem!_pos]

theorem row_holds {w : World} {g cap : Nat} {l : List Win} (h : Row w g cap l) : HoldsK (cellsG Win.tri) 3 w g 0 l.toArray := by
  obtain ⟨cur, hh, hlc, hcm, hsz, hc⟩ := h
  intro t ht
  simp at ht
  have hB : Blk w g 107 cur := hh
  rw [Nat.zero_add, hB.cell, hB.frozen]
  refine ⟨?_, rfl⟩
  have h1 : t / 3 < l.length := by omega
  obtain ⟨c0, c1, c2⟩ := hc (t / 3) h1
  rw [id, flat_get l t ht]
  have h3 : t % 3 = 0 ∨ t % 3 = 1 ∨ t % 3 = 2 := by omega
  rcases h3 with e | e | e
  · have : t = t / 3 * 3 := by omega
    simp only [e, cellsG, Win.tri, List.getElem_cons_zero]
    rw [← c0]; congr 1
  · have : t = t / 3 * 3 + 1 := by omega
    simp only [e, cellsG, Win.tri, List.getElem_cons_succ, List.getElem_cons_zero]
    rw [← c1]; congr 1
  · have : t = t / 3 * 3 + 2 := by omega
    simp only [e, cellsG, Win.tri, List.getElem_cons_succ, List.getElem_cons_zero]
    rw [← c2]; congr 1

theorem row_sorted {w : World} {g cap : Nat} {l : List Win} (h : Row w g cap l) (n : Nat) (d : Array Win) (hd : d.size = l.length) (os : Array Obj) : Row (sortWorldK (cellsG Win.tri) 3 w g 0 n d os) g cap d.toList ∧ w.grownBy (sortWorldK (cellsG Win.tri) 3 w g 0 n d os) (some g) := by
  obtain ⟨cur, hh, hlc, hcm, hsz, hc⟩ := h
  have hg : g < w.heap.size := Blk.lt (t := 107) hh
  have hW : (sortWorldK (cellsG Win.tri) 3 w g 0 n d os).heap = (w.heap.modify g (onCells (putCells id 0 (flatK (cellsG Win.tri) 3 d)))) ++ os := rfl
  refine ⟨⟨putCells id 0 (flatK (cellsG Win.tri) 3 d) cur, ?_, by simpa [hd] using hlc, hcm, ?_, ?_⟩, ⟨rfl, rfl, rfl, ?_, ?_⟩⟩
  · rw [hW, Array.getElem?_append_left (by simpa using hg), Array.getElem?_modify]
    simp [hh, onCells]
  · simp [putCells, hsz]
  · intro i hi
    have hi' : i < d.size := by simpa using hi
    have key : ∀ t, t < d.size * 3 → (putCells id 0 (flatK (cellsG Win.tri) 3 d) cur)[t]? = some ((flatK (cellsG Win.tri) 3 d)[t]!) := by
      intro t ht
      have htc : t < cur.size := by rw [hsz]; have : d.size ≤ cap := by omega
                                    exact Nat.lt_of_lt_of_le ht (Nat.mul_le_mul_right 3 this)
      simp [putCells, htc, ht]
    have hfg := fun t (ht : t < d.size * 3) => flat_get d.toList t (by simpa using ht)
    rw [key _ (by omega), key _ (by omega), key _ (by omega)]
    have e0 := hfg (i * 3) (by omega)
    have e1 := hfg (i * 3 + 1) (by omega)
    have e2 := hfg (i * 3 + 2) (by omega)
    simp only [Array.toArray_toList] at e0 e1 e2
    rw [e0, e1, e2]
    have d0 : i * 3 / 3 = i := by omega
    have d1 : (i * 3 + 1) / 3 = i := by omega
    have d2 : (i * 3 + 2) / 3 = i := by omega
    have m0 : i * 3 % 3 = 0 := by omega
    have m1 : (i * 3 + 1) % 3 = 1 := by omega
    have m2 : (i * 3 + 2) % 3 = 2 := by omega
    simp only [d0, d1, d2, m0, m1, m2, cellsG, Win.tri, List.getElem_cons_zero, List.getElem_cons_succ]
    exact ⟨trivial, trivial, trivial⟩
  · rw [hW]; simp
  · intro k hk hne
    rw [hW, Array.getElem?_append_left (by simpa using hk), Array.getElem?_modify]
    rw [if_neg (fun e => hne (by rw [e]))]
end Go.Proofs.Ytlmbffnmjfbglab
/- The contract of slices.SortFunc at windows, sorted by their starts. -/
namespace Go.Proofs.Ytlmbffnmjfbglab
open Go.ChangeShapes Go.WideShapes Go.ChangeAt Go.RowKit Go.Sort

def cmpI (x y : Int) : Int := if x < y then -1 else if x = y then 0 else 1

theorem compare_c (x y : Int) (w : World) : Calls Try.prog 95 #[.int .i64 x, .int .i64 y] w fun e w' => e = .returned (.int .i64 (cmpI x y)) ∧ w = w' := by
  by_cases h1 : x < y
  · have hx : Hid (cmpI x y = -1) := by simp [cmpI, Hid, h1]
    have e1 : (x != x) = false := by simp
    have e2 : (y != y) = false := by simp
    go_enter Try.func95, Try.ntmps95
    go_wp2
    go_ret
    exact ⟨ret_int hx.out.symm, rfl⟩
  · by_cases h2 : x = y
    · subst h2
      have hx : Hid (cmpI x x = 0) := by simp [cmpI, Hid]
      have e1 : (x != x) = false := by simp
      go_enter Try.func95, Try.ntmps95
      go_wp2
      go_ret
      exact ⟨ret_int hx.out.symm, rfl⟩
    · have hx : Hid (cmpI x y = 1) := by simp [cmpI, Hid, h1, h2]
      have e1 : (x != x) = false := by simp
      have e2 : (y != y) = false := by simp
      have e3 : y < x := by omega
      go_enter Try.func95, Try.ntmps95
      go_wp2
      go_ret
      exact ⟨ret_int hx.out.symm, rfl⟩

def baseCmp (r s : Win) : Int := cmpI r.start s.start
theorem swo_base : SWO (Go.Proofs.ltOf baseCmp) := by
  have e : ∀ x y : Win, Go.Proofs.ltOf baseCmp x y = decide (x.start < y.start) := fun x y => by
    unfold Go.Proofs.ltOf baseCmp cmpI
    by_cases h : x.start < y.start
    · simp [h]
    · by_cases h2 : x.start = y.start <;> simp [h, h2]
  refine ⟨fun x => by rw [e]; simp, fun x y z => by rw [e, e, e]; simp; omega, fun x y z => by rw [e, e, e]; simp; omega⟩

theorem drewN_two (w : World) (a b : Nat) : (w.drewN a).drewN b = w.drewN (a + b) := by simp [World.drewN, Nat.add_assoc]
/-- a world that has only grown and drawn. -/
structure ExtG (w0 : World) where
  w : World
  h : ∃ q os, w = Go.Sort.grow (w0.drewN q) os
instance (w0 : World) : Nonempty (ExtG w0) := ⟨⟨w0, 0, #[], by simp; rfl⟩⟩
theorem grow_cell (w : World) (os : Array Obj) (b o : Nat) (h : b < w.heap.size) : (grow w os).cell? ⟨b, o, none⟩ = w.cell? ⟨b, o, none⟩ := by
  have : (grow w os).heap[b]? = w.heap[b]? := by simp only [grow]; exact Array.getElem?_append_left h
  exact World.cell?_of_block this
theorem extG_cell (w0 : World) : ∀ (x : ExtG w0) b o, b < w0.heap.size → x.w.cell? ⟨b, o, none⟩ = w0.cell? ⟨b, o, none⟩ := fun x b o hb => by
  obtain ⟨q, os, e⟩ := x.h
  rw [e, grow_cell (w0.drewN q) os b o hb]; rfl
theorem wp_region_extG {P : Program} {id : Nat} {Q : Exit → Act → World → Prop} {a : Act} {w : World} {l : List Oper} (hm : P.follows .mixedOrders = true) (hB : Region.lexB .any l.toArray = true)
    (h : wpQuiet P l.toArray (fun w' => ∃ x : ExtG w, w' = x.w) (fun a' => ∀ w', (∃ x : ExtG w, w' = x.w) → Q .normal a' w') l a) : (Code.region id l.toArray true).wp P Q a w :=
  wp_region_quiet (C := fun w' => ∃ x : ExtG w, w' = x.w) hm hB ⟨⟨w.drew, 1, #[], by simp; rfl⟩, rfl⟩ (by simpa using h)
theorem extG_call {P : Program} {f : FuncId} {args : Array Value} {w0 : World} {x : ExtG w0} {v : Value} (h : Calls P f args x.w fun e w' => e = .returned v ∧ ∃ q os', w' = grow (x.w.drewN q) os') :
    Calls P f args x.w fun e w'' => e = .returned v ∧ ∃ y : ExtG w0, w'' = y.w :=
  h.mono fun _ w' ⟨he, q, os', hw⟩ => ⟨he, ⟨w', by
    obtain ⟨q0, os0, e0⟩ := x.h
    refine ⟨q0 + q, os0 ++ os', ?_⟩
    rw [hw, e0, ← grow_grow, ← drewN_two]
    rfl⟩, rfl⟩

theorem key_c (r : Win) (W : World) : Calls Try.prog 80 #[.agg #[.int .i64 r.part, .int .i64 r.start, .int .i64 r.len]] W fun e w' => e = .returned (.int .i64 r.start) ∧ ∃ q os', w' = grow (W.drewN q) os' := by
  go_enter Try.func80, Try.ntmps80
  go_wp2
  go_ret
  exact ⟨rfl, 0, _, by rw [alloc_eq_grow]; rfl⟩

theorem order_c (r s : Win) (Bk : Nat) (W : World) (hc : W.cell? ⟨Bk, 0, none⟩ = some (.func (.func 80) #[] #[])) (hB : Bk < W.heap.size) : Calls Try.prog 94 #[.agg #[.int .i64 r.part, .int .i64 r.start, .int .i64 r.len], .agg #[.int .i64 s.part, .int .i64 s.start, .int .i64 s.len], .pointer (some ⟨Bk, 0, none⟩)] W fun e w' => e = .returned (.int .i64 (baseCmp r s)) ∧ ∃ q os', w' = grow (W.drewN q) os' := by
  have hcon := fun W' => compare_c r.start s.start W'
  have hk1 := fun W' => key_c r W'
  have hk2 := fun W' => key_c s W'
  unfold baseCmp
  generalize cmpI r.start s.start = c at hcon ⊢
  obtain ⟨p, st, l⟩ := r
  obtain ⟨p', st', l'⟩ := s
  simp only at *
  go_enter Try.func94, Try.ntmps94
  go_wp2_with fail
  refine nameW fun W0 hW0 => ?_
  have hz : W0.heap.size = W.heap.size + 2 := by subst hW0; simp
  have c0 : Blk W0 W.heap.size 107 #[.int .i64 p, .int .i64 st, .int .i64 l] := by subst hW0; exact (Blk.new _ _ _).alloc _
  have c1 : Blk W0 (W.heap.size + 1) 107 #[.int .i64 p', .int .i64 st', .int .i64 l'] := by subst hW0; have := Blk.new (W.alloc (.cells #[.int .i64 p, .int .i64 st, .int .i64 l] 107)) 107 #[.int .i64 p', .int .i64 st', .int .i64 l']; rwa [World.size_alloc] at this
  have ck : W0.cell? ⟨Bk, 0, none⟩ = some (.func (.func 80) #[] #[]) := by subst hW0; rw [World.cell?_alloc_lt _ _ _ (by simp; omega), World.cell?_alloc_lt _ _ _ hB]; exact hc
  have hG : ∃ q os', W0 = grow (W.drewN q) os' := by subst hW0; exact ⟨0, _, by rw [alloc_eq_grow, alloc_eq_grow, grow_grow]; rfl⟩
  have z1 : W.heap.size < W0.heap.size := by omega
  have z2 : W.heap.size + 1 < W0.heap.size := by omega
  have z3 : Bk < W0.heap.size := by omega
  clear hW0 hc hz
  have e0 : W0.cell? ⟨W.heap.size, 0, none⟩ = some (.int .i64 p) := c0.cell 0
  have e1 : W0.cell? ⟨W.heap.size, 1, none⟩ = some (.int .i64 st) := c0.cell 1
  have e2 : W0.cell? ⟨W.heap.size, 2, none⟩ = some (.int .i64 l) := c0.cell 2
  have e3 : W0.cell? ⟨W.heap.size + 1, 0, none⟩ = some (.int .i64 p') := c1.cell 0
  have e4 : W0.cell? ⟨W.heap.size + 1, 1, none⟩ = some (.int .i64 st') := c1.cell 1
  have e5 : W0.cell? ⟨W.heap.size + 1, 2, none⟩ = some (.int .i64 l') := c1.cell 2
  have hcc : ∀ x : ExtG W0, Calls Try.prog 95 #[.int .i64 st, .int .i64 st'] x.w fun e w' => e = .returned (.int .i64 c) ∧ ∃ q os', w' = grow (x.w.drewN q) os' := fun x => (hcon x.w).mono fun _ _ ⟨h1, h2⟩ => ⟨h1, 0, #[], by subst h2; simp; rfl⟩
  clear hcon c0 c1
  have hec := extG_cell W0
  refine wp_region_extG (by kernel_rfl) (by kernel_rfl) ?_
  repeat (go_big_quiet_step ((first | (go_at_call 95; exact extG_call (hcc _)) | (go_at_call 80; first | with_reducible exact extG_call (hk1 _) | with_reducible exact extG_call (hk2 _)))))
  refine wpQuiet_nil ?_
  rintro w' ⟨x, rfl⟩
  have hx := x.h
  clear hec hk1 hk2 hcc
  generalize x.w = w' at hx ⊢
  go_wp2
  go_ret
  obtain ⟨q, os, rfl⟩ := hx
  obtain ⟨q0, os0, rfl⟩ := hG
  exact ⟨rfl, q0 + q, os0 ++ os, by rw [← grow_grow, ← drewN_two]; rfl⟩

/-- What the sort says of the world: the row holds a permutation, sorted by the bases; nothing else has turned. -/
def Sorted1 (w : World) (g cap : Nat) (l : List Win) (e : Ending) (w' : World) : Prop := ∃ l' : List Win, e = .returned (.tuple #[]) ∧ l'.Perm l ∧ (∀ i j (h : i < j) (hj : j < l'.length), l'[i].start ≤ l'[j].start) ∧ Row w' g cap l' ∧ w.grownBy w' (some g)

set_option maxRecDepth 100000 in
theorem sort_c (g cap Bk : Nat) (l : List Win) (w : World) (h : Row w g cap l) (hl : l.length ≤ 1000000) (hk : w.cell? ⟨Bk, 0, none⟩ = some (.func (.func 80) #[] #[])) (hkg : Bk ≠ g) (hkB : Bk < w.heap.size) :
    Calls Try.prog 93 #[.slice (some ⟨g, 0, none⟩) l.length cap, .func (.func 94) #[] #[.pointer (some ⟨Bk, 0, none⟩)]] w (Sorted1 w g cap l) := by
  have hg : g < w.heap.size := by obtain ⟨cur, hh, _⟩ := h; exact Blk.lt (t := 107) hh
  have hcmp : Go.Proofs.CmpLays Try.prog 94 #[.pointer (some ⟨Bk, 0, none⟩)] (cellsG Win.tri) 3 baseCmp g 0 l.toArray.size w := fun m os dk hdk x y => by
    have hgr := (row_sorted h m dk (by simpa using hdk) os).2
    exact order_c x y Bk _ ((World.cell?_of_block (hgr.block Bk hkB (fun e => hkg (by injection e)))).trans hk) (Nat.lt_of_lt_of_le hkB hgr.size)
  have hlim : Lib.bitLen l.toArray.size < 4611686018427387904 := Nat.lt_of_le_of_lt (Lib.bitLen_le l.toArray.size 62 (by omega) (by simp; omega)) (by omega)
  have hp := Go.Proofs.AnyQ.pdqsortCmpFunc_all Go.Proofs.Try.sortWins 3 Go.Proofs.Try.isAgg107 Go.Proofs.Try.sizeOf107 (cellsG Win.tri) baseCmp 94 #[.pointer (some ⟨Bk, 0, none⟩)] swo_base g 0 cap l.toArray w
    (enters_of Try.func94 (by kernel_rfl) rfl) hcmp ⟨fun _ => rfl, fun x v hv => by simp [cellsG] at hv; rcases hv with rfl | rfl | rfl <;> rfl, row_holds h, hg⟩ (l.toArray.size + 1) 0 l.toArray.size (Lib.bitLen l.toArray.size) l.toArray w (by omega) rfl (Go.Proofs.SWK.start (row_holds h)) (Nat.zero_le _) (Nat.le_refl _) (by simp; omega) hlim (Or.inl rfl)
  change Calls Try.prog 104 _ _ _ at hp
  have hb : Calls Try.prog 105 #[.int .u64 (l.length : Int)] w fun e w' => e = .returned (.int .i64 (Lib.bitLen l.length : Nat)) ∧ w' = w := by
    have h := Go.Proofs.Any.bits_Len (Go.Proofs.SlLaysF0.n15.bits (P := Try.prog) (ρ := Go.Proofs.Try.sortWins_ren) { Go.Proofs.Try.sortWins with }) (l.length : Int) w (by omega) (by omega)
    rwa [Int.toNat_natCast] at h
  have hps := pdq_sorts (Go.Proofs.ltOf baseCmp) swo_base l.toArray 0 l.toArray.size (Lib.bitLen l.toArray.size) true true (Nat.zero_le _) (Nat.le_refl _) (Or.inl rfl)
  simp only [List.size_toArray] at hp hps
  generalize pdq (Go.Proofs.ltOf baseCmp) l.toArray 0 l.length (Lib.bitLen l.length) true true = d at hp hps
  obtain ⟨⟨hsz, _, hperm⟩, hsort⟩ := hps
  have hsz' : d.size = l.length := by simpa using hsz
  have hfin : ∀ n os, Row (sortWorldK (cellsG Win.tri) 3 w g 0 n d os) g cap d.toList ∧ w.grownBy (sortWorldK (cellsG Win.tri) 3 w g 0 n d os) (some g) := fun n os => row_sorted h n d hsz' os
  have hperm' : d.toList.Perm l := by
    have e : d.extract 0 l.length = d := by rw [← hsz']; simp
    have e2 : (l.toArray.extract 0 l.length).toList = l := by simp
    rw [e, e2] at hperm
    exact hperm
  have hsort' : ∀ i j (h : i < j) (hj : j < d.toList.length), d.toList[i].start ≤ d.toList[j].start := by
    intro i j hij hj
    have hj' : j < d.size := by simpa using hj
    have := hsort i j (Nat.zero_le _) hij (by omega)
    rw [getElem!_pos d i (by omega), getElem!_pos d j hj'] at this
    simp only [Array.getElem_toList]
    unfold Go.Proofs.ltOf baseCmp cmpI at this
    by_cases hlt : d[j].start < d[i].start
    · simp [hlt] at this
    · omega
  have Hfin := Lib.hid hfin
  have Hperm := Lib.hid hperm'
  have Hsort := Lib.hid hsort'
  have wr : IntKind.u64.wrap (l.length : Int) = l.length := by simp [IntKind.wrap, IntKind.bits, IntKind.signed]; omega
  clear hfin hperm' hsort' hperm hsort hsz hsz' hcmp h hlim hk hkg
  go_enter Try.func93, Try.ntmps93
  go_wp2_with (first | (go_at_call 105; refine hb.mono ?_; rintro e w' ⟨rfl, rfl⟩) | (go_at_call 104; refine hp.mono ?_; rintro e w' ⟨rfl, n, os, rfl⟩))
  go_end0
  exact ⟨d.toList, rfl, Hperm.out, Hsort.out, Hfin.out n os⟩

end Go.Proofs.Ytlmbffnmjfbglab
/- Sorting nothing; the contract of ordered. -/
namespace Go.Proofs.Ytlmbffnmjfbglab
open Go.ChangeShapes Go.WideShapes Go.ChangeAt Go.RowKit Go.Sort

theorem ins_nil_c (w : World) (f : Value) : Calls Try.prog 114 #[.slice none 0 0, .int .i64 0, .int .i64 0, f] w fun e w' => e = .returned (.tuple #[]) ∧ w = w' := by
  go_enter Try.func114, Try.ntmps114
  go_wp2
  refine wp_loop_rounds 1 ?_
  rw [rounds_succ]
  go_wp2
  go_end0
  exact ⟨rfl, rfl⟩
theorem pdq_nil_c (w : World) (f : Value) (lim : Int) : Calls Try.prog 104 #[.slice none 0 0, .int .i64 0, .int .i64 0, .int .i64 lim, f] w fun e w' => e = .returned (.tuple #[]) ∧ w = w' := by
  have hi := fun W => ins_nil_c W f
  go_enter Try.func104, Try.ntmps104
  go_wp2
  refine wp_loop_rounds 1 ?_
  rw [rounds_succ]
  go_wp2_with (go_at_call 114; refine (hi _).mono ?_; rintro e w' ⟨rfl, rfl⟩)
  exact bodyPost_ret (results_none rfl _ _ _) rfl ⟨rfl, rfl⟩
theorem sort_nil_c (w : World) (f : Value) : Calls Try.prog 93 #[.slice none 0 0, f] w fun e w' => e = .returned (.tuple #[]) ∧ w = w' := by
  have hp := fun lim W => pdq_nil_c W f lim
  have hb : ∀ W, Calls Try.prog 105 #[.int .u64 0] W fun e w' => e = .returned (.int .i64 (Lib.bitLen 0 : Nat)) ∧ w' = W := fun W =>
    Go.Proofs.Any.bits_Len (Go.Proofs.SlLaysF0.n15.bits (P := Try.prog) (ρ := Go.Proofs.Try.sortWins_ren) { Go.Proofs.Try.sortWins with }) 0 W (by omega) (by omega)
  go_enter Try.func93, Try.ntmps93
  go_wp2_with (first | (go_at_call 105; refine (hb _).mono ?_; rintro e w' ⟨rfl, rfl⟩) | (go_at_call 104; refine (hp _ _).mono ?_; rintro e w' ⟨rfl, rfl⟩))
  go_end0
  exact ⟨rfl, rfl⟩

/-- a slice of the call's own: nil, or the whole of a row from block B on. -/
def OwnWin (w : World) (B : Nat) (v : Value) (l : List Win) : Prop := (v = .slice none 0 0 ∧ l = []) ∨ ∃ g cap, v = .slice (some ⟨g, 0, none⟩) l.length cap ∧ B ≤ g ∧ Row w g cap l
theorem Row.of_own {w : World} {base g cap n : Nat} {l : List Win} (hn : n = l.length) (h : w.ownsRow base 107 3 (.slice (some ⟨g, 0, none⟩) n cap) n (l.flatMap (cellsG Win.tri))) : Row w g cap l := by
  subst hn
  rcases h.2 with ⟨h0, _⟩ | ⟨g', cap', cur, hv, _, hh, hnc, hcm, hsz, htk⟩
  · cases h0
  · injection hv with h1 h2 h3
    injection h1 with h1
    injection h1 with h1
    subst h1 h3
    refine ⟨cur, hh, hnc, hcm, hsz, fun i hi => ?_⟩
    obtain ⟨q0, q1, q2⟩ := cellsG_get (f := Win.tri) l i hi
    have e : ∀ j v, j < l.length * 3 → (l.flatMap (cellsG Win.tri))[j]? = some v → cur[j]? = some v := fun j v hj hq => by
      rw [← htk, List.getElem?_take, if_pos hj] at hq
      simpa using hq
    exact ⟨e _ _ (by omega) q0, e _ _ (by omega) q1, e _ _ (by omega) q2⟩
theorem OwnWin.of_own {w : World} {base n : Nat} {v : Value} {l : List Win} (hn : n = l.length) (h : w.ownsRow base 107 3 v n (l.flatMap (cellsG Win.tri))) : OwnWin w base v l := by
  rcases h.2 with ⟨rfl, h0⟩ | ⟨g, cap, cur, rfl, hb, _⟩
  · left
    refine ⟨rfl, List.eq_nil_of_length_eq_zero ?_⟩
    rw [h0] at hn; exact hn.symm
  · right
    exact ⟨g, cap, by rw [hn], hb, Row.of_own hn h⟩
theorem Row.lt {w : World} {g cap : Nat} {l : List Win} (h : Row w g cap l) : g < w.heap.size := by obtain ⟨cur, hh, _⟩ := h; exact Blk.lt (t := 107) hh
theorem Row.cells {w : World} {g cap : Nat} {l : List Win} (h : Row w g cap l) (i : Nat) (hi : i < l.length) : w.cell? ⟨g, i * 3, none⟩ = some (.int .i64 l[i].part) ∧ w.cell? ⟨g, i * 3 + 1, none⟩ = some (.int .i64 l[i].start) ∧ w.cell? ⟨g, i * 3 + 2, none⟩ = some (.int .i64 l[i].len) := by
  obtain ⟨cur, hh, hlc, hcm, hsz, hc⟩ := h
  have hB : Blk w g 107 cur := hh
  rw [hB.cell, hB.cell, hB.cell]
  exact hc i hi
theorem Row.rd {w : World} {g cap : Nat} {l : List Win} (h : Row w g cap l) : RdG Win.tri w w.heap.size (some ⟨g, 0, none⟩) l := fun _ =>
  ⟨g, 0, rfl, h.lt, fun i hi => by have := h.cells i hi; simpa [Win.tri] using this⟩
theorem Row.below {w w' : World} {g cap B : Nat} {l : List Win} (h : Row w g cap l) (hb : Below B w w') (hg : g < B) : Row w' g cap l := by
  obtain ⟨cur, hh, r⟩ := h
  exact ⟨cur, (hb.block g hg).trans hh, r⟩

/-- what ordered hands back: the windows, sorted by their starts; a row of the caller's own has turned. -/
def RetSorted (w : World) (B : Nat) (l : List Win) (e : Ending) (w' : World) : Prop := ∃ A c l', e = .returned (.slice A l.length c) ∧ l'.Perm l ∧ (∀ i j (h : i < j) (hj : j < l'.length), l'[i].start ≤ l'[j].start) ∧ RdG Win.tri w' w'.heap.size A l' ∧ Below B w w' ∧ KeepsOthers w w'

theorem ordered_c (v : Value) (l : List Win) (B : Nat) (w : World) (h : OwnWin w B v l) (hB : B ≤ w.heap.size) (hl : l.length ≤ 1000000) :
    Calls Try.prog 79 #[v, .func (.func 80) #[] #[]] w (RetSorted w B l) := by
  have hB0 : Below B w (w.alloc (.cells #[.func (.func 80) #[] #[]] 109)) := (Below.refl _ _).alloc hB _
  rcases h with ⟨rfl, rfl⟩ | ⟨g, cap, rfl, hBg, hrow⟩
  · have hs := fun f W => sort_nil_c W f
    go_enter Try.func79, Try.ntmps79
    go_wp2_with (go_at_call 93; refine (hs _ _).mono ?_; rintro e w' ⟨rfl, rfl⟩)
    go_ret
    exact ⟨none, 0, [], rfl, List.Perm.refl _, fun i j _ hj => absurd hj (by simp), RdG.nil, hB0, KeepsOthers.alloc _ _⟩
  · have hg := hrow.lt
    have hrow1 : Row (w.alloc (.cells #[.func (.func 80) #[] #[]] 109)) g cap l := hrow.below ((Below.refl _ w).alloc (Nat.le_refl _) _) hg
    have hs := sort_c g cap w.heap.size l _ hrow1 hl ((Blk.new w 109 #[.func (.func 80) #[] #[]]).cell 0) (by omega) (by simp)
    go_enter Try.func79, Try.ntmps79
    go_wp2_with fail
    refine hs.mono ?_
    rintro e w' ⟨l', rfl, hperm, hsort, hrow', hgr⟩
    have hB' : Below B w w' := hB0.grown hgr (by simp; omega) (fun k hk => by injection hk with hk; omega)
    have hko : KeepsOthers w w' := (KeepsOthers.alloc _ _).trans (KeepsOthers.of_grownBy hgr (fun j o e ho => by
      obtain ⟨cur, hh, _⟩ := hrow1
      injection e with e
      subst e
      rw [hh] at ho; cases ho; rfl))
    clear hs hrow hrow1 hgr hB0
    have hlen := hperm.length_eq
    have hrd := hrow'.rd
    have Hsort := Lib.hid hsort
    have Hlen := Lib.hid hlen
    clear hsort hlen hrow'
    go_wp2
    go_ret
    exact ⟨_, cap, l', rfl, hperm, Hsort.out, hrd, hB', hko⟩
end Go.Proofs.Ytlmbffnmjfbglab
/- The contract of Table. -/
namespace Go.Proofs.Ytlmbffnmjfbglab
open Go.ChangeShapes Go.WideShapes Go.ChangeAt Go.RowKit

attribute [local go_sem] Oper.semAt_some

def RetTable (w : World) (F : Int) (ps : List Part) (os : List Int) (e : Ending) (w' : World) : Prop := ∃ A c q, e = .returned (.tuple #[.slice A q.1.length c, .int .i64 q.2]) ∧ TableV F ps os q ∧ RdG Win.tri w' w'.heap.size A q.1 ∧ Below w.heap.size w w'

theorem nameWide {P : Program} {f n : Nat} {args : Array Value} {w : World} {R : Ending → World → Prop} (h : ∀ W0, W0 = w → Fence.wide.fn f ∧ CallsIn Fence.wide n P f args W0 R) : Fence.wide.fn f ∧ CallsIn Fence.wide n P f args w R := h w rfl
theorem ownFrom_row {β : Type} (B base : Nat) (t : TypeId) (size n : Nat) (v : Value) (xs : List Value) : OwnFrom B (fun (_ : β) W => W.ownsRow base t size v n xs) := fun _ X _ _ hs hg hr => hs.kept hg (by
  rcases hs.2 with ⟨rfl, _⟩ | ⟨g, cap, cur, rfl, _, hh, _⟩
  · exact .inl rfl
  · refine .inr fun e => ?_
    obtain ⟨_, o, ho, hc⟩ := hr g e.symm
    rw [hh] at ho; cases ho; cases hc)
/-- what the taking over of the marks leaves alone. -/
structure Shut (B : Nat) (W W' : World) : Prop where
  below : Below B W W'
  cells : ∀ (k : Nat) (o : Obj), W.heap[k]? = some o → o.isCells = true → W'.heap[k]? = some o
  size : W.heap.size ≤ W'.heap.size
theorem Shut.rd {α : Type} {f : α → Tri} {B : Nat} {W W' : World} {A : Option Addr} {l : List α} (h : Shut B W W') (hr : RdG f W W.heap.size A l) : RdG f W' W'.heap.size A l := fun hn => by
  obtain ⟨b, o, rfl, hb, hc⟩ := hr hn
  have key : ∀ j v, W.cell? ⟨b, j, none⟩ = some v → W'.cell? ⟨b, j, none⟩ = some v := fun j v hv => by
    obtain ⟨ob, ho, hcl⟩ := cells_of_cell hv
    exact (World.cell?_of_block ((h.cells _ _ ho hcl).trans ho.symm)).trans hv
  exact ⟨b, o, rfl, Nat.lt_of_lt_of_le hb h.size, fun i hi => ⟨key _ _ (hc i hi).1, key _ _ (hc i hi).2.1, key _ _ (hc i hi).2.2⟩⟩
def markD (D : Nat) : Deferred := { target := .collected D, args := #[] }
theorem leaves_marks {F : Fence} {n : Nat} {P : Program} {fn : Func} {tmps : Array Value} {R : Ending → World → Prop} : ∀ (Ds : List Nat) (W : World) (B : Nat), Ds.Nodup → (∀ D ∈ Ds, B ≤ D ∧ W.heap[D]? = some (.deferred (some []))) →
    (∀ W', Shut B W W' → LeavesIn F n P fn tmps R [] .returning W') → LeavesInM F n P fn tmps R (Ds.map markD) .returning W
  | [], W, B, _, _, h => h W ⟨Below.refl _ _, fun _ _ hk _ => hk, Nat.le_refl _⟩
  | D :: Ds, W, B, hn, hm, h => by
    obtain ⟨hD, hn'⟩ := List.nodup_cons.1 hn
    obtain ⟨hB, hW⟩ := hm D (by simp)
    refine ⟨by simp, .inl ⟨D, _, rfl, run_takeDeferred hW, ?_⟩⟩
    refine leaves_marks Ds _ B hn' (fun E hE => ⟨(hm E (by simp [hE])).1, (World.putObj_heap_other (by rintro rfl; exact hD hE)).trans (hm E (by simp [hE])).2⟩) fun W' hS => h W' ?_
    refine ⟨?_, fun k o hk hc => hS.cells k o ((World.putObj_heap_other (fun e => ?_)).trans hk) hc, ?_⟩
    · exact ((Below.refl B W).grown (grownBy_putObj' W D (.deferred none)) (by have := (Array.getElem?_eq_some_iff.1 hW).1; omega) (fun k e => by cases e; omega)).trans hS.below
    · subst e; rw [hW] at hk; cases hk; cases hc
    · have := hS.size; simpa using this
theorem info31 : (Try.prog.info? 107).map (fun i => (i.zero, i.size, i.bytes)) = some (some (.agg #[.int .i64 0, .int .i64 0, .int .i64 0]), 3, 24) := by kernel_rfl

/-- what the third loop keeps. -/
structure TL (w1 : World) (Bo : Nat) (F : Int) (sl : List Slot) (k : Nat) (v : Value) (Ds : List Nat) (W : World) : Prop where
  le : k ≤ sl.length
  below : Below w1.heap.size w1 W
  size : Bo + 1 ≤ W.heap.size
  out : Blk W Bo 84 #[v]
  own : W.ownsRow (Bo + 1) 107 3 v (winsTo F sl k).length ((winsTo F sl k).flatMap (cellsG Win.tri))
  nodup : Ds.Nodup
  marks : ∀ D ∈ Ds, Bo + 1 ≤ D ∧ W.heap[D]? = some (.deferred (some []))
theorem TL.alloc {w1 : World} {Bo : Nat} {F : Int} {sl : List Slot} {k : Nat} {v : Value} {Ds : List Nat} {W : World} (h : TL w1 Bo F sl k v Ds W) (o : Obj) : TL w1 Bo F sl k v Ds (W.alloc o) :=
  ⟨h.le, h.below.alloc h.below.size _, by simp; have := h.size; omega, h.out.alloc _, h.own.alloc _, h.nodup, fun D hD => ⟨(h.marks D hD).1, (Below.heap_alloc W o D (Array.getElem?_eq_some_iff.1 (h.marks D hD).2).1).trans (h.marks D hD).2⟩⟩
/-- what a round of the range keeps. -/
structure TI (w1 W4 : World) (Bo Bi Bx : Nat) (F : Int) (sl : List Slot) (x : Slot) (k : Nat) (Ds : List Nat) (j : Nat) (W : World) : Prop where
  below : Below w1.heap.size w1 W
  size : W4.heap.size ≤ W.heap.size
  out : ∃ v, Blk W Bo 84 #[v] ∧ W.ownsRow (Bo + 1) 107 3 v (winsTo F sl k ++ winsS k x j).length ((winsTo F sl k ++ winsS k x j).flatMap (cellsG Win.tri))
  bi : Blk W Bi 3 #[.int .i64 k]
  bs : Blk W (Bi + 1) 46 #[.int .i64 x.off, .int .i64 x.per, .int .i64 x.len]
  bx : Blk W Bx 77 #[.int .i64 x.off, .int .i64 x.per, .int .i64 x.len]
  marks : ∀ D ∈ Ds, D < W4.heap.size ∧ W.heap[D]? = some (.deferred (some []))
section
variable {w1 W4 : World} {Bo Bi Bx : Nat} {F : Int} {sl : List Slot} {x : Slot} {k : Nat} {Ds : List Nat} {v : Value}
theorem TI.start (hT : TL w1 Bo F sl k v Ds W4) (hi : Blk W4 Bi 3 #[.int .i64 k]) (hs : Blk W4 (Bi + 1) 46 #[.int .i64 x.off, .int .i64 x.per, .int .i64 x.len]) (hx : Blk W4 Bx 77 #[.int .i64 x.off, .int .i64 x.per, .int .i64 x.len]) : TI w1 W4 Bo Bi Bx F sl x k Ds 0 W4 :=
  ⟨hT.below, Nat.le_refl _, ⟨v, hT.out, by simpa [winsS] using hT.own⟩, hi, hs, hx, fun D hD => ⟨(Array.getElem?_eq_some_iff.1 (hT.marks D hD).2).1, (hT.marks D hD).2⟩⟩
theorem TI.own (hT : TL w1 Bo F sl k v Ds W4) : OwnFrom W4.heap.size (fun j W => TI w1 W4 Bo Bi Bx F sl x k Ds j W) := fun j X Y row hs hg hr =>
  ⟨ownFrom_below (Nat.le_refl _) hT.below.size j X Y row hs.below hg hr, Nat.le_trans hs.size hg.size,
   by obtain ⟨v, h1, h2⟩ := hs.out; exact ⟨v, ownFrom_blk (β := Nat) W4.heap.size _ _ _ j X Y row h1 hg hr, ownFrom_row (β := Nat) W4.heap.size _ _ _ _ _ _ j X Y row h2 hg hr⟩,
   ownFrom_blk (β := Nat) W4.heap.size _ _ _ j X Y row hs.bi hg hr, ownFrom_blk (β := Nat) W4.heap.size _ _ _ j X Y row hs.bs hg hr, ownFrom_blk (β := Nat) W4.heap.size _ _ _ j X Y row hs.bx hg hr,
   fun D hD => ⟨(hs.marks D hD).1, (hg.block D (Array.getElem?_eq_some_iff.1 (hs.marks D hD).2).1 (fun e => by have := (hr D e.symm).1; have := (hs.marks D hD).1; omega)).trans (hs.marks D hD).2⟩⟩
theorem TI.ownc (hT : TL w1 Bo F sl k v Ds W4) {j : Nat} : OwnFrom W4.heap.size (fun (_ : Code) W => TI w1 W4 Bo Bi Bx F sl x k Ds j W) := fun _ X Y row hs hg hr => TI.own hT j X Y row hs hg hr
theorem own_cells {W : World} {base n : Nat} {t : TypeId} {size : Nat} {v : Value} {xs : List Value} (h : W.ownsRow base t size v n xs) (j : Nat) (o : Obj) (hj : v.ownBlock = some j) (ho : W.heap[j]? = some o) : o.isCells = true := by
  rcases h.2 with ⟨rfl, _⟩ | ⟨g, cap, cur, rfl, _, hh, _⟩
  · cases hj
  · have : g = j := by simpa [Value.ownBlock] using hj
    subst this
    rw [hh] at ho; cases ho; rfl
/-- a round that appends: its window, into a row from block Bo + 1 on, then the new slice into the box. -/
theorem TI.step {W w2 : World} {j : Nat} {v v2 : Value} {n : Nat} {xs : List Value} {o : Obj} (hI : TI w1 W4 Bo Bi Bx F sl x k Ds j W) (hBo : w1.heap.size ≤ Bo) (_hB4 : Bo + 1 ≤ W4.heap.size) (hbo : Blk W Bo 84 #[v]) (hown : W.ownsRow (Bo + 1) 107 3 v n xs)
    (hgrow : (W.alloc o).grownBy w2 v.ownBlock) (hown2 : w2.ownsRow (Bo + 1) 107 3 v2 (winsTo F sl k ++ winsS k x (j + 1)).length ((winsTo F sl k ++ winsS k x (j + 1)).flatMap (cellsG Win.tri))) :
    KeepsOthers W (w2.setCell ⟨Bo, 0, none⟩ v2) ∧ (w2.setCell ⟨Bo, 0, none⟩ v2).heap[Bx]? = W.heap[Bx]? ∧ TI w1 W4 Bo Bi Bx F sl x k Ds (j + 1) (w2.setCell ⟨Bo, 0, none⟩ v2) := by
  have hko : KeepsOthers W (w2.setCell ⟨Bo, 0, none⟩ v2) := (KeepsOthers.alloc W o).trans ((KeepsOthers.of_grownBy hgrow (own_cells (hown.alloc o))).trans (KeepsOthers.setCell _ _ _))
  have keep : ∀ g t cs, Blk W g t cs → (107 : TypeId) ≠ t → g ≠ Bo → Blk (w2.setCell ⟨Bo, 0, none⟩ v2) g t cs := fun g t cs hg ht hne =>
    ((hg.alloc o).grown hgrow (fun e => own_blk_ne hown hg ht e.symm)).far (p := ⟨Bo, 0, none⟩) hne _
  have nbi : Bi ≠ Bo := fun e => (Blk.ne_ hI.bi hbo (by decide)) e
  have nbs : Bi + 1 ≠ Bo := fun e => (Blk.ne_ hI.bs hbo (by decide)) e
  have nbx : Bx ≠ Bo := fun e => (Blk.ne_ hI.bx hbo (by decide)) e
  have hbx := keep _ _ _ hI.bx (by decide) nbx
  have hob := ((hbo.alloc o).grown hgrow (fun e => own_blk_ne hown hbo (by decide) e.symm)).set_ 0 v2
  have hsz : W.heap.size ≤ w2.heap.size := by have := hgrow.size; simp at this; omega
  refine ⟨hko, hbx.trans hI.bx.symm, ?_, Nat.le_trans hI.size hko.size, ⟨v2, hob, ownsRow_setCell_below hown2 (by simp) _⟩, keep _ _ _ hI.bi (by decide) nbi, keep _ _ _ hI.bs (by decide) nbs, hbx, fun D hD => ⟨(hI.marks D hD).1, hko.same D _ (hI.marks D hD).2 rfl⟩⟩
  exact (((hI.below.alloc hI.below.size o).grown hgrow (by simp; have := hI.below.size; omega) (fun g hg => by have := hown.lt g hg; omega))).setCell (p := ⟨Bo, 0, none⟩) hBo _
end

set_option maxRecDepth 100000 in
set_option maxHeartbeats 1000000 in
theorem table_c (name : ByteArray) (mem F : Int) (ps : List Part) (A : Option Addr) (c : Nat) (os : List Int) (A' : Option Addr) (c' : Nat) (w : World) (h : RdPart w w.heap.size A ps) (h' : RdInt w w.heap.size A' os) (hl : ps.length ≤ 9223372036854775807) (hl' : os.length ≤ 9223372036854775807) :
    Calls Try.prog 57 #[.agg #[.string name, .int .i64 mem, .int .i64 F, .slice A ps.length c], .slice A' os.length c'] w (RetTable w F ps os) := by
  have hB : Below w.heap.size w (w.alloc (.cells #[.string name, .int .i64 mem, .int .i64 F, .slice A ps.length c] 24)) := (Below.refl _ w).alloc (Nat.le_refl _) _
  have hblk := Blk.new w 24 #[.string name, .int .i64 mem, .int .i64 F, .slice A ps.length c]
  have ht := slots_c name mem F ps A c os A' c' _ (h.below hB) ((h'.keep hB).more hB.size) hl hl'
  clear h h'
  refine (callsIn_wide (n := 9)).1 ?_
  refine callsIn_of_wp_marks Try.func57 rfl trivial ?_ rfl
  simp only [Try.ntmps57, List.size_toArray, List.length_cons, List.length_nil, Nat.reduceAdd, Nat.reduceSub, Array.replicate_succ, Array.replicate_zero, List.push_toArray, List.append_toArray, List.nil_append, List.cons_append]
  gi_wp2_with fail
  refine ⟨trivial, (callsIn_wide.2 ht).mono ?_⟩
  rintro e w1 ⟨A1, c1, rfl, hrd, hb1⟩
  have hB1 := hB.trans (hb1.mono hB.size)
  have hk1 := hblk.below hb1 hblk.lt
  have hz1 : w.heap.size + 1 ≤ w1.heap.size := by have := hb1.size; simpa using this
  clear hB hblk hb1 ht
  by_cases he : (slotsV F ps os).2 = 0
  · have hok := slotsV_ok he
    have He := Lib.hid he
    rw [he]
    clear he
    have Hq := Lib.hid (show slotsV F ps os = ((slotsV F ps os).1, 0) from Prod.ext rfl He.out)
    generalize hsl : (slotsV F ps os).1 = sl at *
    have Hsl := Lib.hid hsl
    clear hsl
    have hF1 := hok.frame.1
    have hF2 := hok.frame.2
    have h6 := hok.few
    gi_wp2_with fail
    gi_loopw [26] (fun i wr => ∃ k : Nat, k ≤ sl.length ∧ i = .int .i64 k ∧ Below w1.heap.size w1 wr ∧ Hid (∀ i k' (h : k' < i) (hi : i < sl.length), i < k → apartB sl[k'] sl[i] = true)) (fun i _ => sl.length - (intOf i).toNat)
    case atStart => exact ⟨0, Nat.zero_le _, rfl, Below.refl _ _, fun i k' _ _ h => absurd h (by omega)⟩
    case round =>
      obtain ⟨k, hk, rfl, hB, hall⟩ := hrel
      by_cases hlt : k < sl.length
      · have hokk := hok.ok sl[k] (List.getElem_mem _)
        gi_wp2_with fail
        obtain ⟨wo, hwo⟩ : ∃ wo : World, wo = wr := ⟨_, rfl⟩
        subst hwo
        gi_loopw [30] (fun j wr => ∃ m : Nat, m ≤ k ∧ j = .int .i64 m ∧ Below w1.heap.size w1 wr ∧ Hid (∀ k' (h : k' < m) (h2 : k' < sl.length), apartB sl[k'] sl[k] = true)) (fun j _ => k - (intOf j).toNat)
        case atStart => exact ⟨0, Nat.zero_le _, rfl, hB, fun k' h => absurd h (by omega)⟩
        case round =>
          obtain ⟨m, hm, rfl, hB2, hin⟩ := hrel
          by_cases hlm : m < k
          · have hmm : m < sl.length := by omega
            have hokm := hok.ok sl[m] (List.getElem_mem _)
            have hap := fun x : Ext wr => apart_c sl[m] sl[k] x.w hokm hokk
            obtain ⟨b, o, rfl, hbB, hc⟩ := hrd.keep hB2 (by omega)
            obtain ⟨c0, c1', c2⟩ := hc m hmm
            obtain ⟨d0, d1, d2⟩ := hc k hlt
            change _ = some (Value.int .i64 sl[m].off) at c0
            change _ = some (Value.int .i64 sl[m].per) at c1'
            change _ = some (Value.int .i64 sl[m].len) at c2
            change _ = some (Value.int .i64 sl[k].off) at d0
            change _ = some (Value.int .i64 sl[k].per) at d1
            change _ = some (Value.int .i64 sl[k].len) at d2
            have hno : apartB sl[m] sl[k] = false → ¬ NoClash sl := fun e hh => by have := hh k m hlm hlt; rw [e] at this; cases this
            have hyes : apartB sl[m] sl[k] = true → ∀ k' (h : k' < m + 1) (h2 : k' < sl.length), apartB sl[k'] sl[k] = true := fun e k' h h2 => by
              by_cases e' : k' = m
              · subst e'; exact e
              · exact hin.out k' (by omega) h2
            have Hno := Lib.hid hno
            have Hyes := Lib.hid hyes
            have hbw : b < wr.heap.size := Nat.lt_of_lt_of_le hbB hB2.size
            have hi0 : (0 : Int) ≤ (m : Int) := by omega
            have hi1 : (m : Int) < (sl.length : Int) := by omega
            have hi2 : (0 : Int) ≤ (k : Int) := by omega
            have hi3 : (k : Int) < (sl.length : Int) := by omega
            clear hno hyes hc hrd hin hall hokk hokm
            generalize apartB sl[m] sl[k] = q at hap Hno Hyes
            generalize sl[m] = x at *
            generalize sl[k] = y at *
            have hec := ext_cell wr
            gi_wp2_with fail
            refine wpIn_wide.2 ?_
            refine wp_region_ext (by kernel_rfl) (by kernel_rfl) ?_
            repeat (go_big_quiet_step ((go_at_call 47; exact ext_call (hap _))))
            refine wpQuiet_nil ?_
            rintro w' ⟨xw, rfl⟩
            have hx := xw.h
            clear hap hec c0 c1' c2 d0 d1 d2
            generalize xw.w = w' at hx ⊢
            have hB3 := hB2.trans (hx.mono hB2.size)
            cases q with
            | true =>
              gi_wp2
              go_roundw
              case rel => exact ⟨m + 1, by omega, by go_num, hB3, Hyes.out rfl⟩
              case measure => simp [intOf]; omega
            | false =>
              have hnn := Lib.hid (Hno.out rfl)
              clear Hno Hyes
              gi_wp2
              exact ⟨.tuple #[.slice none 0 0, .int .i64 120], by simp [results, Try.f57, go_sem], none, 0, ([], 120), rfl, .inr (.inl ⟨He.out, (by rw [Hsl.out]; exact hnn.out), rfl⟩), RdG.nil, hB1.trans (hB3.mono hB1.size)⟩
          · obtain rfl : m = k := by omega
            gi_wp2
            go_roundw
            case rel =>
              refine ⟨m + 1, by omega, by go_num, hB2, fun i k' h hi him => ?_⟩
              by_cases e : i = m
              · subst e; exact hin.out k' h (by omega)
              · exact hall.out i k' h hi (by omega)
            case measure => simp [intOf]; omega
      · have hnc : Hid (NoClash sl) := fun i k' h hi => hall.out i k' h hi (by omega)
        obtain rfl : k = sl.length := by omega
        clear hall
        gi_wp2_with fail
        have hBo := hB.size
        have hb0 := Blk.new wr 84 #[.slice none 0 0]
        have hBa : Below w1.heap.size w1 (wr.alloc (.cells #[.slice none 0 0] 84)) := hB.alloc hBo _
        have hsa : wr.heap.size + 1 ≤ (wr.alloc (.cells #[.slice none 0 0] 84)).heap.size := by simp
        generalize wr.alloc (.cells #[.slice none 0 0] 84) = wa at hb0 hBa hsa ⊢
        generalize wr.heap.size = Bo at hb0 hBo hsa ⊢
        clear hB
        have hq4 : (Blk wa w.heap.size 24 #[.string name, .int .i64 mem, .int .i64 F, .slice A ps.length c]) := hk1.below hBa hk1.lt
        refine wpIn_loop (fun a wr => ∃ (k : Nat) (v : Value) (Ds : List Nat), TL w1 Bo F sl k v Ds wr ∧ ∃ z12 z13 z49 z50 z51 z52 z53 z54 z68 : Value, a = { tmps := #[.agg #[.string name, .int .i64 mem, .int .i64 F, .slice A ps.length c], .slice A' os.length c', .pointer (some ⟨w.heap.size, 0, none⟩), undef, u4, u5, .slice A1 sl.length c1, .int .i64 0, .func (.func 47) #[] #[], u9, u10, .pointer (some ⟨Bo, 0, none⟩), z12, z13, undef, .tuple #[.slice A1 sl.length c1, .int .i64 0], .agg #[.string name, .int .i64 mem, .int .i64 F, .slice A ps.length c], .slice A' os.length c', .tuple #[.slice A1 sl.length c1, .int .i64 0], .slice A1 sl.length c1, .int .i64 0, .int .i64 0, .bool false, undef, .slice A1 sl.length c1, .int .i64 sl.length, .int .i64 sl.length, .bool false, u28, u29, u30, u31, u32, u33, u34, u35, u36, u37, u38, u39, u40, u41, u42, u43, u44, u45, .slice A1 sl.length c1, .int .i64 sl.length, .int .i64 k, z49, z50, z51, z52, z53, z54, undef, undef, undef, undef, undef, undef, undef, undef, undef, undef, undef, undef, undef, z68, undef, undef], defers := Ds.map markD }) (fun a _ => sl.length - (intOf (a.tmps.getD 48 undef)).toNat) ?h0 ?round
        case h0 => exact ⟨0, _, [], ⟨Nat.zero_le _, hBa, hsa, hb0, World.ownsRow_nil _ _ _ _, List.nodup_nil, fun D h => absurd h (by simp)⟩, _, _, _, _, _, _, _, _, _, rfl⟩
        case round =>
          clear hb0 hBa hsa hq4
          rintro a wr ⟨k, v, Ds, hT, z12, z13, z49, z50, z51, z52, z53, z54, z68, rfl⟩
          by_cases hlt : k < sl.length
          · have hx := hok.ok sl[k] (List.getElem_mem _)
            have hdv := hok.div sl[k] (List.getElem_mem _)
            obtain ⟨b, o, rfl, hbB, hc⟩ := hrd.keep hT.below (by omega)
            obtain ⟨d0, d1, d2⟩ := hc k hlt
            change _ = some (Value.int .i64 sl[k].off) at d0
            change _ = some (Value.int .i64 sl[k].per) at d1
            change _ = some (Value.int .i64 sl[k].len) at d2
            have hws := winsTo_succ F sl k hlt
            have hwl := winsTo_len hok.ok hF2 k (by omega)
            have hi0 : (0 : Int) ≤ (k : Int) := by omega
            have hi1 : (k : Int) < (sl.length : Int) := by omega
            have hti := tk_lt_iff hx hF1 hdv
            have hcb := cnt_bd hx hF2
            clear hc hdv
            generalize sl[k] = x at hx d0 d1 d2 hws hti hcb
            have Hws := Lib.hid hws
            have Hti := Lib.hid hti
            clear hws hti
            generalize cntS F x = cn at Hws Hti hcb
            gi_wp2_with fail
            refine nameWide fun W0 hW0 => ?_
            have hz0 : W0.heap.size = wr.heap.size + 2 := by subst hW0; simp
            have hbi : Blk W0 wr.heap.size 3 #[.int .i64 k] := by subst hW0; exact (Blk.new _ _ _).alloc _
            have hbs : Blk W0 (wr.heap.size + 1) 46 #[.int .i64 x.off, .int .i64 x.per, .int .i64 x.len] := by subst hW0; have := Blk.new (wr.alloc (.cells #[.int .i64 k] 3)) 46 #[.int .i64 x.off, .int .i64 x.per, .int .i64 x.len]; rwa [World.size_alloc] at this
            have hT0 : TL w1 Bo F sl k v Ds W0 := by subst hW0; exact (hT.alloc _).alloc _
            clear hW0 hT d0 d1 d2
            refine wide_call (starts_c x W0) ?_
            rintro e W4 ⟨rfl, rfl⟩
            have hT4 := hT0.alloc (.cells #[.int .i64 x.off, .int .i64 x.per, .int .i64 x.len] 77)
            have hbx := Blk.new W0 77 #[.int .i64 x.off, .int .i64 x.per, .int .i64 x.len]
            have hbi4 := hbi.alloc (.cells #[.int .i64 x.off, .int .i64 x.per, .int .i64 x.len] 77)
            have hbs4 := hbs.alloc (.cells #[.int .i64 x.off, .int .i64 x.per, .int .i64 x.len] 77)
            have hz4 : W0.heap.size < (W0.alloc (.cells #[.int .i64 x.off, .int .i64 x.per, .int .i64 x.len] 77)).heap.size := by simp
            generalize W0.alloc (.cells #[.int .i64 x.off, .int .i64 x.per, .int .i64 x.len] 77) = W4 at hT4 hbx hbi4 hbs4 hz4 ⊢
            generalize W0.heap.size = Bx at hz0 hbx hz4 ⊢
            clear hT0 hbi hbs hz0
            generalize wr.heap.size = Bi at hbi4 hbs4 ⊢
            gi_wp2_with fail
            refine wpIn_rangeK (gf := 92) (lb := #[.pointer (some ⟨Bx, 0, none⟩)]) rfl (enters_of Try.func92 (by kernel_rfl) rfl)
              (fun j => #[.int .i64 (x.tk j)]) (fun _ => rfl) (cn + 1) Bx hz4 (starts1_seq x hx _ Bx W4 hz4 hbx)
              (fun j W => j ≤ cn ∧ TI w1 W4 Bo Bi Bx F sl x k Ds j W) (fun c W => c = .exit 6 ∧ TI w1 W4 Bo Bi Bx F sl x k Ds cn W)
              (OwnFrom.and (ownFrom_pure _ _) (TI.own hT4)) (OwnFrom.and (ownFrom_pure _ _) (TI.ownc hT4)) (fun j W h => by omega) (by omega) ⟨Nat.zero_le _, TI.start hT4 hbi4 hbs4 hbx⟩
              (fun j => { tmps := #[.agg #[.string name, .int .i64 mem, .int .i64 F, .slice A ps.length c], .slice A' os.length c', .pointer (some ⟨w.heap.size, 0, none⟩), undef, u4, u5, .slice (some ⟨b, o, none⟩) sl.length c1, .int .i64 0, .func (.func 47) #[] #[], u9, u10, .pointer (some ⟨Bo, 0, none⟩), .pointer (some ⟨Bi, 0, none⟩), .pointer (some ⟨Bi + 1, 0, none⟩), .int .i64 (x.tk j), .tuple #[.slice (some ⟨b, o, none⟩) sl.length c1, .int .i64 0], .agg #[.string name, .int .i64 mem, .int .i64 F, .slice A ps.length c], .slice A' os.length c', .tuple #[.slice (some ⟨b, o, none⟩) sl.length c1, .int .i64 0], .slice (some ⟨b, o, none⟩) sl.length c1, .int .i64 0, .int .i64 0, .bool false, undef, .slice (some ⟨b, o, none⟩) sl.length c1, .int .i64 sl.length, .int .i64 sl.length, .bool false, u28, u29, u30, u31, u32, u33, u34, u35, u36, u37, u38, u39, u40, u41, u42, u43, u44, u45, .slice (some ⟨b, o, none⟩) sl.length c1, .int .i64 sl.length, .int .i64 k, .bool true, .int .i64 k, .pointer (some ⟨b, o + k * 3, none⟩), .agg #[.int .i64 x.off, .int .i64 x.per, .int .i64 x.len], .agg #[.int .i64 x.off, .int .i64 x.per, .int .i64 x.len], .func (.func 92) #[] #[.pointer (some ⟨Bx, 0, none⟩)], .int .i64 (x.tk j), undef, undef, undef, undef, undef, undef, undef, undef, undef, undef, undef, undef, z68, undef, undef], defers := [] })
              ?assign ?body ?stop
            case assign =>
              intro l j W KK hK
              gi_wp2
              exact hK
            case body =>
              rintro l j W ⟨hj, hI⟩
              have q2 : W.cell? ⟨w.heap.size, 2, none⟩ = some (.int .i64 F) := (hI.below.cell (p := ⟨w.heap.size, 2, none⟩) hk1.lt).trans (hk1.cell 2)
              have hj2 := Hti.out j
              obtain ⟨t0, t1⟩ := tk_bd hx j (by omega)
              by_cases hjc : j < cn
              · have htl := hj2.2 hjc
                clear hj2
                obtain ⟨v', hbo, hown⟩ := hI.out
                obtain ⟨i0, hi0, hz0, hz1', hz2⟩ := info_parts info31
                have p0 : W.cell? ⟨Bo, 0, none⟩ = some v' := hbo.cell 0
                have pf : W.frozen? ⟨Bo, 0, none⟩ = false := hbo.frozen 0
                have p1 : W.cell? ⟨Bi, 0, none⟩ = some (.int .i64 k) := hI.bi.cell 0
                have p2 : W.cell? ⟨Bi + 1, 2, none⟩ = some (.int .i64 x.len) := hI.bs.cell 2
                have hnl : ((winsTo F sl k) ++ winsS k x j).length ≤ 20000 := by rw [List.length_append, winsS_len]; omega
                have hsz := hI.size
                have hbo4 := hT4.size
                have Hn := Lib.hid (show winsTo F sl k ++ winsS k x (j + 1) = (winsTo F sl k ++ winsS k x j) ++ [⟨k, x.tk j, x.len⟩] by rw [winsS_succ, List.append_assoc])
                have Hstep := Lib.hid (fun (w2 : World) (v2 : Value) (o : Obj) hg ho => TI.step (w2 := w2) (v2 := v2) (o := o) hI hBo hbo4 hbo hown hg ho)
                have hne26 : v'.ownBlock ≠ some Bo := own_blk_ne hown hbo (by decide)
                have Hne26 := Lib.hid hne26
                have Hbo := Lib.hid hbo
                clear hI hbo hne26
                rw [Hn.out] at Hstep
                generalize winsTo F sl k ++ winsS k x j = ws at hown hnl Hn Hstep
                generalize x.tk j = T at *
                gi_wp2_with (gi_at_builtin; refine wpListIn_append_own _ rfl (.tmp 60) (.tmp 66) 84 rfl (Bo + 1) 107 i0 (.agg #[.int .i64 0, .int .i64 0, .int .i64 0]) 3 24 Try.underlying84 hi0 hz0 hz1' hz2 rfl (by decide) _ ws.length _ rfl (hown.alloc _) ⟨W.heap.size, 0, none⟩ 1 1 [.int .i64 k, .int .i64 T, .int .i64 x.len] rfl rfl ?c1 ?c2 ?c3 ?c4 ?c5 ?_)
                case c1 => exact World.news_of_block (cs := #[.int .i64 k, .int .i64 T, .int .i64 x.len]) (t := 107) (fr := (0, 0)) (heap_alloc_new W _)
                case c2 => intro u hu; simp at hu; rcases hu with rfl | rfl | rfl <;> rfl
                case c3 => unfold maxLen; omega
                case c4 => omega
                case c5 => simp; omega
                intro v2 w2 hown2 hgrow _
                have r0 : w2.cell? ⟨Bo, 0, none⟩ = some v' := ((Hbo.out.alloc _).grown hgrow (fun e => Hne26.out e.symm)).cell 0
                have rf : w2.frozen? ⟨Bo, 0, none⟩ = false := ((Hbo.out.alloc _).grown hgrow (fun e => Hne26.out e.symm)).frozen 0
                obtain ⟨Av2, nv2, cv2, rfl⟩ : ∃ Av2 nv2 cv2, v2 = .slice Av2 nv2 cv2 := by
                  rcases hown2.2 with ⟨rfl, _⟩ | ⟨g, cap, cur, rfl, _⟩
                  · exact ⟨_, _, _, rfl⟩
                  · exact ⟨_, _, _, rfl⟩
                have hfin := Hstep.out w2 (.slice Av2 nv2 cv2) _ hgrow (by simpa [cellsG, Win.tri] using hown2)
                have Hfin := Lib.hid hfin
                clear hfin hown2 hgrow
                gi_wp2
                exact ⟨Hfin.out.1, Hfin.out.2.1, by omega, Hfin.out.2.2⟩
              · obtain rfl : j = cn := by omega
                have htl : ¬ x.tk j < F := fun h => hjc (hj2.1 h)
                clear hj2
                generalize x.tk j = T at *
                gi_wp2
                exact ⟨KeepsOthers.refl _, rfl, hI⟩
            case stop =>
              rintro cc W ⟨rfl, hI⟩ hK
              have hout := hI.out
              rw [← Hws.out] at hout
              obtain ⟨v', hbo, hown⟩ := hout
              have hTn : TL w1 Bo F sl (k + 1) v' (W4.heap.size :: Ds) W := ⟨by omega, hI.below, Nat.le_trans hT4.size hI.size, hbo, hown, List.nodup_cons.2 ⟨fun hD => by have := (hI.marks _ hD).1; omega, hT4.nodup⟩, fun D hD => by
                rcases List.mem_cons.1 hD with rfl | hD
                · exact ⟨hT4.size, hK⟩
                · exact ⟨(hT4.marks D hD).1, (hI.marks D hD).2⟩⟩
              clear hbo hown hI hK hT4
              gi_wp2
              exact ⟨⟨k + 1, v', W4.heap.size :: Ds, hTn, _, _, _, _, _, _, _, _, _, rfl⟩, by simp [intOf]; omega⟩
          · have hkl : k = sl.length := by have := hT.le; omega
            subst hkl
            have p0 : wr.cell? ⟨Bo, 0, none⟩ = some v := hT.out.cell 0
            have hwl := winsTo_len hok.ok hF2 sl.length (Nat.le_refl _)
            have hord := ordered_c v (winsTo F sl sl.length) (Bo + 1) wr (OwnWin.of_own rfl hT.own) hT.size (by omega)
            gi_wp2_with fail
            refine wide_call hord ?_
            rintro e w' ⟨Af, cf, l', rfl, hperm, hsort, hrd', hB', hko⟩
            have Hsort := Lib.hid hsort
            clear hord hsort p0
            gi_wp2
            refine leaves_marks Ds w' (Bo + 1) hT.nodup (fun D hD => ⟨(hT.marks D hD).1, hko.same D _ (hT.marks D hD).2 rfl⟩) fun W' hS => ?_
            refine ⟨.tuple #[.slice Af (winsTo F sl sl.length).length cf, .int .i64 0], by simp [results, Try.f57, go_sem], Af, cf, (l', 0), by rw [hperm.length_eq], ?_, hS.rd hrd', ?_⟩
            · exact .inr (.inr ⟨He.out, (by rw [Hsl.out]; exact hnc.out), rfl, by rw [Hsl.out]; exact ⟨hperm, Hsort.out⟩⟩)
            · exact hB1.trans ((hT.below.trans (hB'.mono (by omega))).trans (hS.below.mono (by omega)) |>.mono hB1.size)
  · have hne : ((slotsV F ps os).2 != 0) = true := by simpa using he
    have Hv : Hid (TableV F ps os ([], (slotsV F ps os).2)) := .inl ⟨he, rfl⟩
    clear he
    generalize (slotsV F ps os).2 = er at *
    gi_wp2
    exact ⟨.tuple #[.slice none 0 0, .int .i64 er], by simp [results, Try.f57, go_sem], none, 0, ([], er), rfl, Hv.out, RdG.nil, hB1⟩
end Go.Proofs.Ytlmbffnmjfbglab
/- Slots in plain numbers: when two slots are open together. -/
namespace Go.Proofs.Ytlmbffnmjfbglab

def openS (s : Slot) (t : Int) : Prop := s.off ≤ t ∧ (t - s.off) % s.per < s.len
instance (s : Slot) (t : Int) : Decidable (openS s t) := by unfold openS; infer_instance
def bothS (a b : Slot) (t : Int) : Prop := openS a t ∧ openS b t
instance (a b : Slot) (t : Int) : Decidable (bothS a b t) := by unfold bothS; infer_instance

theorem emod_add_small {x p e : Int} (hp : 0 < p) (he : 0 ≤ e) (h : x % p + e < p) : (x + e) % p = x % p + e := by
  have h1 := Int.mul_ediv_add_emod x p
  have h0 := Int.emod_nonneg x (show p ≠ 0 by omega)
  have h2 : x + e = (x % p + e) + p * (x / p) := by omega
  rw [h2, Int.add_mul_emod_self_left, Int.emod_eq_of_lt (by omega) h]

theorem open_iff {s : Slot} (h : s.ok) (t : Int) : openS s t ↔ ∃ k : Nat, s.tk k ≤ t ∧ t < s.tk k + s.len := by
  obtain ⟨h1, h2, h3, h4, h5, h6⟩ := h
  constructor
  · rintro ⟨a1, a2⟩
    refine ⟨((t - s.off) / s.per).toNat, ?_⟩
    have e := Int.mul_ediv_add_emod (t - s.off) s.per
    have q : 0 ≤ (t - s.off) / s.per := Int.ediv_nonneg (by omega) (by omega)
    have e0 := Int.emod_nonneg (t - s.off) (show s.per ≠ 0 by omega)
    unfold Slot.tk
    rw [Int.toNat_of_nonneg q, Int.mul_comm]
    omega
  · rintro ⟨k, a1, a2⟩
    unfold Slot.tk at a1 a2
    have hk : 0 ≤ (k : Int) * s.per := Int.mul_nonneg (by omega) (by omega)
    refine ⟨by omega, ?_⟩
    have e : t - s.off = (t - s.off - k * s.per) + s.per * k := by rw [Int.mul_comm s.per]; omega
    rw [e, Int.add_mul_emod_self_left, Int.emod_eq_of_lt (by omega) (by omega)]
    omega

theorem first_spec {s : Slot} (h : s.ok) (t : Int) : t ≤ firstS s t ∧ openS s (firstS s t) ∧ ∀ u, t ≤ u → u < firstS s t → ¬ openS s u := by
  obtain ⟨h1, h2, h3, h4, h5, h6⟩ := h
  unfold firstS
  have e0 := Int.emod_nonneg (t - s.off) (show s.per ≠ 0 by omega)
  have e1 := Int.emod_lt_of_pos (t - s.off) (show 0 < s.per by omega)
  by_cases c : t < s.off
  · rw [if_pos c]
    refine ⟨by omega, ⟨by omega, ?_⟩, fun u _ hu ho => by have := ho.1; omega⟩
    rw [Int.sub_self, Int.zero_emod]; omega
  · rw [if_neg c]
    by_cases r : s.len ≤ (t - s.off) % s.per
    · rw [if_pos r]
      refine ⟨by omega, ⟨by omega, ?_⟩, fun u hu1 hu2 ho => ?_⟩
      · have e := Int.mul_ediv_add_emod (t - s.off) s.per
        have : t - (t - s.off) % s.per + s.per - s.off = 0 + s.per * ((t - s.off) / s.per + 1) := by rw [Int.mul_add]; omega
        rw [this, Int.add_mul_emod_self_left, Int.zero_emod]; omega
      · have := emod_add_small (x := t - s.off) (p := s.per) (e := u - t) (by omega) (by omega) (by omega)
        rw [show t - s.off + (u - t) = u - s.off from by omega] at this
        have h' := ho.2
        omega
    · rw [if_neg r]
      exact ⟨Int.le_refl _, ⟨by omega, by omega⟩, fun u hu1 hu2 _ => by omega⟩

theorem hit_iff {a b : Slot} (hb : b.ok) (k : Nat) : hitB a b k = true ↔ ∃ t, a.tk k ≤ t ∧ t < a.tk k + a.len ∧ openS b t := by
  obtain ⟨f1, f2, f3⟩ := first_spec hb (a.tk k)
  unfold hitB
  rw [decide_eq_true_iff]
  constructor
  · intro h; exact ⟨_, f1, h, f2⟩
  · rintro ⟨t, h1, h2, h3⟩
    rcases Int.lt_or_le (firstS b (a.tk k)) (a.tk k + a.len) with h | h
    · exact h
    · exact absurd h3 (f3 t h1 (by omega))

theorem bezout (a b : Nat) : ∃ x y : Int, (Nat.gcd a b : Int) = a * x + b * y := by
  induction a, b using Nat.gcd.induction with
  | H0 n => exact ⟨0, 1, by simp⟩
  | H1 m n hm ih =>
    obtain ⟨x, y, h⟩ := ih
    rw [Nat.gcd_rec, h]
    refine ⟨y - (n / m : Nat) * x, x, ?_⟩
    have e : ((n % m : Nat) : Int) = n - m * (n / m : Nat) := by
      have := Nat.div_add_mod n m
      have h2 : ((m * (n / m) + n % m : Nat) : Int) = n := by rw [this]
      rw [Int.natCast_add, Int.natCast_mul] at h2
      omega
    rw [e, Int.sub_mul, Int.mul_sub, Int.mul_assoc]
    omega

theorem combine (p q : Int) (hp : 1 ≤ p) (hq : 1 ≤ q) (m : Int) : ∃ i j : Nat, (i : Int) * p - j * q = (Nat.gcd p.toNat q.toNat : Nat) * m := by
  obtain ⟨x, y, h⟩ := bezout p.toNat q.toNat
  rw [Int.toNat_of_nonneg (by omega), Int.toNat_of_nonneg (by omega)] at h
  generalize ((Nat.gcd p.toNat q.toNat : Nat) : Int) = g at *
  obtain ⟨n, hn⟩ : ∃ n : Nat, (n : Int) = (x * m).natAbs + (y * m).natAbs := ⟨(x * m).natAbs + (y * m).natAbs, by simp⟩
  have hi : 0 ≤ x * m + n * q := by
    have : (n : Int) * 1 ≤ n * q := Int.mul_le_mul_of_nonneg_left hq (by omega)
    omega
  have hj : 0 ≤ n * p - y * m := by
    have : (n : Int) * 1 ≤ n * p := Int.mul_le_mul_of_nonneg_left hp (by omega)
    omega
  refine ⟨(x * m + n * q).toNat, (n * p - y * m).toNat, ?_⟩
  rw [Int.toNat_of_nonneg hi, Int.toNat_of_nonneg hj, h]
  rw [Int.add_mul, Int.sub_mul, Int.add_mul]
  have e1 : x * m * p = p * x * m := by rw [Int.mul_comm (x * m), ← Int.mul_assoc]
  have e2 : y * m * q = q * y * m := by rw [Int.mul_comm (y * m), ← Int.mul_assoc]
  have e3 : (n : Int) * q * p = n * p * q := by rw [Int.mul_assoc, Int.mul_comm q p, ← Int.mul_assoc]
  omega

theorem apart_false {a b : Slot} (ha : a.ok) (hb : b.ok) (h : apartB a b = false) : ∃ t, bothS a b t := by
  have hg := g_pos (b := b) ha
  have e := Int.mul_ediv_add_emod (b.off - a.off) (Slot.g a b)
  have d0 : 0 ≤ Slot.d a b := Int.emod_nonneg _ (by omega)
  have d1 : Slot.d a b < Slot.g a b := Int.emod_lt_of_pos _ (by omega)
  have hd : (b.off - a.off) % Slot.g a b = Slot.d a b := rfl
  rw [hd] at e
  have hc : Slot.d a b < a.len ∨ Slot.g a b < Slot.d a b + b.len := by
    simp only [apartB, Bool.and_eq_false_iff, decide_eq_false_iff_not] at h
    omega
  have hal := ha.2.2.1
  have hbl := hb.2.2.1
  rcases hc with hc | hc
  · obtain ⟨i, j, hij⟩ := combine a.per b.per ha.1 hb.1 ((b.off - a.off) / Slot.g a b)
    change (i : Int) * a.per - j * b.per = Slot.g a b * _ at hij
    refine ⟨a.tk i + Slot.d a b, (open_iff ha _).2 ⟨i, by omega, by omega⟩, (open_iff hb _).2 ⟨j, ?_, ?_⟩⟩ <;> (unfold Slot.tk; omega)
  · obtain ⟨i, j, hij⟩ := combine a.per b.per ha.1 hb.1 ((b.off - a.off) / Slot.g a b + 1)
    change (i : Int) * a.per - j * b.per = Slot.g a b * _ at hij
    rw [Int.mul_add] at hij
    refine ⟨a.tk i, (open_iff ha _).2 ⟨i, by omega, by omega⟩, (open_iff hb _).2 ⟨j, ?_, ?_⟩⟩ <;> (unfold Slot.tk; omega)

theorem apart_true {a b : Slot} (ha : a.ok) (hb : b.ok) (h : apartB a b = true) (t : Int) : ¬ bothS a b t := by
  rintro ⟨hta, htb⟩
  have hg := g_pos (b := b) ha
  simp only [apartB, Bool.and_eq_true, decide_eq_true_iff] at h
  obtain ⟨h1, h2⟩ := h
  obtain ⟨i, i1, i2⟩ := (open_iff ha t).1 hta
  obtain ⟨j, j1, j2⟩ := (open_iff hb t).1 htb
  have ga : (Slot.g a b) ∣ a.per := by
    have := Nat.gcd_dvd_left a.per.toNat b.per.toNat
    have := Int.natCast_dvd_natCast.2 this
    rwa [Int.toNat_of_nonneg (by have := ha.1; omega)] at this
  have gb : (Slot.g a b) ∣ b.per := by
    have := Nat.gcd_dvd_right a.per.toNat b.per.toNat
    have := Int.natCast_dvd_natCast.2 this
    rwa [Int.toNat_of_nonneg (by have := hb.1; omega)] at this
  obtain ⟨u, hu⟩ := ga
  obtain ⟨v, hv⟩ := gb
  unfold Slot.tk at i1 i2 j1 j2
  have hd : (b.off - a.off) % Slot.g a b = Slot.d a b := rfl
  generalize Slot.g a b = g at *
  generalize Slot.d a b = d at *
  -- the difference of the places in the two windows
  obtain ⟨x, hx⟩ : ∃ x, x = t - (a.off + i * a.per) := ⟨_, rfl⟩
  obtain ⟨y, hy⟩ : ∃ y, y = t - (b.off + j * b.per) := ⟨_, rfl⟩
  have e : b.off - a.off = (x - y) + g * (i * u - j * v) := by
    rw [Int.mul_sub]
    have e1 : (i : Int) * a.per = g * (i * u) := by rw [hu, ← Int.mul_assoc, ← Int.mul_assoc, Int.mul_comm (i : Int) g]
    have e2 : (j : Int) * b.per = g * (j * v) := by rw [hv, ← Int.mul_assoc, ← Int.mul_assoc, Int.mul_comm (j : Int) g]
    omega
  rw [e, Int.add_mul_emod_self_left] at hd
  rcases Int.lt_or_le x y with c | c
  · have e2 : (x - y) % g = x - y + g := by
      have : x - y = (x - y + g) + g * (-1) := by omega
      rw [this, Int.add_mul_emod_self_left, Int.emod_eq_of_lt (by omega) (by omega)]
      omega
    omega
  · rcases Int.lt_or_le (x - y) g with c2 | c2
    · rw [Int.emod_eq_of_lt (by omega) c2] at hd; omega
    · have := Int.emod_lt_of_pos (x - y) (show 0 < g by omega)
      omega

theorem both_shift {a b : Slot} {t P : Int} (h : bothS a b t) (ha : a.per ∣ P) (hb : b.per ∣ P) (h1 : a.off ≤ t - P) (h2 : b.off ≤ t - P) : bothS a b (t - P) := by
  obtain ⟨⟨a1, a2⟩, b1, b2⟩ := h
  obtain ⟨u, rfl⟩ := ha
  obtain ⟨v, hv⟩ := hb
  refine ⟨⟨h1, ?_⟩, h2, ?_⟩
  · have : t - a.per * u - a.off = t - a.off + a.per * (-u) := by rw [Int.mul_neg]; omega
    rwa [this, Int.add_mul_emod_self_left]
  · have : t - a.per * u - b.off = t - b.off + b.per * (-v) := by rw [Int.mul_neg, hv]; omega
    rwa [this, Int.add_mul_emod_self_left]

/-- the first common time of two slots that meet. -/
structure MeetAt (a b : Slot) (T : Int) : Prop where
  nonneg : 0 ≤ T
  both : bothS a b T
  least : ∀ t, t < T → ¬ bothS a b t

theorem MeetAt.unique {a b : Slot} {T U : Int} (h : MeetAt a b T) (k : MeetAt a b U) : T = U := by
  rcases Int.lt_or_le T U with c | c
  · exact absurd h.both (k.least T c)
  · rcases Int.lt_or_le U T with c' | c'
    · exact absurd k.both (h.least U c')
    · omega

theorem MeetAt.lt {a b : Slot} {T P : Int} (h : MeetAt a b T) (ha : a.ok) (hb : b.ok) (hP : 0 < P) (hpa : a.per ∣ P) (hpb : b.per ∣ P) : T < P + a.off + b.off := by
  obtain ⟨_, _, _, _, a5, _⟩ := ha
  obtain ⟨_, _, _, _, b5, _⟩ := hb
  rcases Int.lt_or_le T (P + a.off + b.off) with c | c
  · exact c
  · exact absurd (both_shift h.both hpa hpb (by omega) (by omega)) (h.least _ (by omega))

/-- two valid slots that are not apart: their first common time, as the program finds it. -/
theorem meets {a b : Slot} (ha : a.ok) (hb : b.ok) (h : apartB a b = false) : ∃ K : Nat, hitB a b K = true ∧ (∀ k, k < K → hitB a b k = false) ∧ K < 5000000 ∧ MeetAt a b (firstS b (a.tk K)) := by
  obtain ⟨t, ht⟩ := apart_false ha hb h
  obtain ⟨k0, hk1, hk2⟩ := (open_iff ha t).1 ht.1
  have hex : ∃ k, hitB a b k = true := ⟨k0, (hit_iff hb k0).2 ⟨t, hk1, hk2, ht.2⟩⟩
  have key : ∀ n k, k ≤ n → hitB a b k = true → ∃ K, hitB a b K = true ∧ ∀ j, j < K → hitB a b j = false := by
    intro n
    induction n with
    | zero => intro k hk h; exact ⟨k, h, fun j hj => absurd hj (by omega)⟩
    | succ n ih =>
      intro k hk h
      by_cases hj : ∃ j, j < k ∧ hitB a b j = true
      · obtain ⟨j, hj, hh⟩ := hj
        exact ih j (by omega) hh
      · exact ⟨k, h, fun j hjk => by
          cases hh : hitB a b j with
          | false => rfl
          | true => exact absurd ⟨j, hjk, hh⟩ hj⟩
  obtain ⟨k, hk⟩ := hex
  obtain ⟨K, hK, hm⟩ := key k k (Nat.le_refl _) hk
  obtain ⟨f1, f2, f3⟩ := first_spec hb (a.tk K)
  have hlt : firstS b (a.tk K) < a.tk K + a.len := of_decide_eq_true hK
  obtain ⟨a1, a2, a3, a4, a5, a6⟩ := ha
  have hKp : (K : Int) * 1 ≤ K * a.per := Int.mul_le_mul_of_nonneg_left a1 (by omega)
  have hM : MeetAt a b (firstS b (a.tk K)) := by
    have htk : a.tk K = a.off + K * a.per := rfl
    refine ⟨by omega, ⟨(open_iff ⟨a1, a2, a3, a4, a5, a6⟩ _).2 ⟨K, f1, hlt⟩, f2⟩, fun u hu hbu => ?_⟩
    obtain ⟨j, j1, j2⟩ := (open_iff ⟨a1, a2, a3, a4, a5, a6⟩ u).1 hbu.1
    have hj : hitB a b j = true := (hit_iff hb j).2 ⟨u, j1, j2, hbu.2⟩
    rcases Nat.lt_trichotomy j K with c | c | c
    · rw [hm j c] at hj; cases hj
    · subst c; exact f3 u j1 hu hbu.2
    · have : a.tk K + a.per ≤ a.tk j := by
        have : ((K : Int) + 1) * a.per ≤ j * a.per := Int.mul_le_mul_of_nonneg_right (by omega) (by omega)
        rw [Int.add_mul] at this
        unfold Slot.tk; omega
      omega
  refine ⟨K, hK, hm, ?_, hM⟩
  have hb' := hb
  obtain ⟨b1, b2, b3, b4, b5, b6⟩ := hb
  have hl := hM.lt ⟨a1, a2, a3, a4, a5, a6⟩ hb' (Int.mul_pos (by omega) (by omega)) (Int.dvd_mul_right a.per b.per) (Int.dvd_mul_left a.per b.per)
  have hpp : a.per * b.per ≤ 2000 * 2000 := Int.mul_le_mul a2 b2 (by omega) (by omega)
  unfold Slot.tk at f1 hl
  omega

/-- Meet, in plain words. -/
def MeetV (a b : Slot) (q : Int × Bool) : Prop := (q = (0, false) ∧ (validS a = false ∨ validS b = false ∨ ∀ t, ¬ bothS a b t)) ∨ (q.2 = true ∧ a.ok ∧ b.ok ∧ MeetAt a b q.1)
theorem MeetV.unique {a b : Slot} {q r : Int × Bool} (h : MeetV a b q) (k : MeetV a b r) : q = r := by
  rcases h with ⟨rfl, h⟩ | ⟨h1, h2, h3, h4⟩
  · rcases k with ⟨rfl, _⟩ | ⟨k1, k2, k3, k4⟩
    · rfl
    · rw [show validS a = true from decide_eq_true k2, show validS b = true from decide_eq_true k3] at h
      simp only [Bool.true_eq_false, false_or] at h
      exact absurd k4.both (h _)
  · rcases k with ⟨rfl, h⟩ | ⟨k1, k2, k3, k4⟩
    · rw [show validS a = true from decide_eq_true h2, show validS b = true from decide_eq_true h3] at h
      simp only [Bool.true_eq_false, false_or] at h
      exact absurd h4.both (h _)
    · exact Prod.ext (h4.unique k4) (by rw [h1, k1])
theorem disj_iff {a b : Slot} (ha : a.ok) (hb : b.ok) : disjB a b = true ↔ ∀ t, ¬ bothS a b t := by
  have e : disjB a b = apartB a b := by simp [disjB, validS, ha, hb]
  rw [e]
  constructor
  · exact fun h => apart_true ha hb h
  · intro h
    cases hh : apartB a b with
    | true => rfl
    | false => obtain ⟨t, ht⟩ := apart_false ha hb hh; exact absurd ht (h t)
end Go.Proofs.Ytlmbffnmjfbglab
/- Equality of windows and of slots; the contracts of SameWindows, SameSlots, slices.Equal and slot. -/
namespace Go.Proofs.Ytlmbffnmjfbglab
open Go.ChangeShapes Go.WideShapes Go.ChangeAt Go.RowKit

def Win.eqB (r s : Win) : Bool := r.part == s.part && r.start == s.start && r.len == s.len
theorem Win.eqB_iff {r s : Win} : r.eqB s = true ↔ r = s := by
  cases r; cases s; simp [Win.eqB, and_assoc]
def sameWin : List Win → List Win → Bool
  | [], [] => true
  | r :: l, s :: m => r.eqB s && sameWin l m
  | _, _ => false
theorem sameWin_iff {l m : List Win} : sameWin l m = true ↔ l = m := by
  induction l generalizing m with
  | nil => cases m <;> simp [sameWin]
  | cons r l ih => cases m <;> simp [sameWin, ih, Win.eqB_iff]
theorem sameWin_no {l m : List Win} {k : Nat} {hk : k < l.length} {hk' : k < m.length} (h : l[k].eqB m[k] = false) : sameWin l m = false := by
  cases e : sameWin l m with
  | false => rfl
  | true => rw [sameWin_iff] at e; subst e; rw [Win.eqB_iff.2 rfl] at h; cases h
theorem sameWin_yes {l m : List Win} (hlm : l.length = m.length) (h : ∀ j (h : j < l.length) (h' : j < m.length), l[j].eqB m[j] = true) : sameWin l m = true := by
  rw [sameWin_iff]
  exact List.ext_getElem hlm fun i h1 h2 => Win.eqB_iff.1 (h i h1 h2)

def Slot.eqB (r s : Slot) : Bool := r.off == s.off && r.per == s.per && r.len == s.len
theorem Slot.eqB_iff {r s : Slot} : r.eqB s = true ↔ r = s := by
  cases r; cases s; simp [Slot.eqB, and_assoc]
def sameSlot : List Slot → List Slot → Bool
  | [], [] => true
  | r :: l, s :: m => r.eqB s && sameSlot l m
  | _, _ => false
theorem sameSlot_iff {l m : List Slot} : sameSlot l m = true ↔ l = m := by
  induction l generalizing m with
  | nil => cases m <;> simp [sameSlot]
  | cons r l ih => cases m <;> simp [sameSlot, ih, Slot.eqB_iff]
theorem sameSlot_no {l m : List Slot} {k : Nat} {hk : k < l.length} {hk' : k < m.length} (h : l[k].eqB m[k] = false) : sameSlot l m = false := by
  cases e : sameSlot l m with
  | false => rfl
  | true => rw [sameSlot_iff] at e; subst e; rw [Slot.eqB_iff.2 rfl] at h; cases h
theorem sameSlot_yes {l m : List Slot} (hlm : l.length = m.length) (h : ∀ j (h : j < l.length) (h' : j < m.length), l[j].eqB m[j] = true) : sameSlot l m = true := by
  rw [sameSlot_iff]
  exact List.ext_getElem hlm fun i h1 h2 => Slot.eqB_iff.1 (h i h1 h2)

end Go.Proofs.Ytlmbffnmjfbglab
/- Meet and Table in plain words, joined with the walks; tables are unique. -/
namespace Go.Proofs.Ytlmbffnmjfbglab
open Go.ChangeShapes Go.WideShapes Go.ChangeAt Go.RowKit

theorem meet_ex (a b : Slot) : ∃ q, MeetV a b q := by
  by_cases ha : a.ok
  · by_cases hb : b.ok
    · cases hd : apartB a b with
      | true => exact ⟨(0, false), .inl ⟨rfl, .inr (.inr (apart_true ha hb hd))⟩⟩
      | false =>
        obtain ⟨K, _, _, _, hM⟩ := meets ha hb hd
        exact ⟨(_, true), .inr ⟨rfl, ha, hb, hM⟩⟩
    · exact ⟨(0, false), .inl ⟨rfl, .inr (.inl (decide_eq_false hb))⟩⟩
  · exact ⟨(0, false), .inl ⟨rfl, .inl (decide_eq_false ha)⟩⟩

/-- the windows are in order. -/
def Ord (l : List Win) : Prop := l.Pairwise fun x y => x.start ≤ y.start
def Dist (l : List Win) : Prop := l.Pairwise fun x y => x.start ≠ y.start
theorem ord_of {l : List Win} (h : ∀ i j (_ : i < j) (hj : j < l.length), l[i].start ≤ l[j].start) : Ord l :=
  List.pairwise_iff_getElem.2 fun i j _ hj hij => h i j hij hj
theorem dist_perm {l m : List Win} (h : l.Perm m) (hd : Dist l) : Dist m := h.pairwise hd (fun h e => h e.symm)
theorem ord_unique : ∀ (l m : List Win), l.Perm m → Ord l → Ord m → Dist l → l = m
  | [], m, h, _, _, _ => (List.nil_perm.1 h).symm
  | x :: l, [], h, _, _, _ => by have := h.length_eq; simp at this
  | x :: l, y :: m, h, hl, hm, hd => by
    have hl' := List.pairwise_cons.1 hl
    have hm' := List.pairwise_cons.1 hm
    have hd' := List.pairwise_cons.1 hd
    have e : x = y := by
      have hy : y ∈ x :: l := h.mem_iff.2 (by simp)
      have hx : x ∈ y :: m := h.mem_iff.1 (by simp)
      rcases List.mem_cons.1 hy with e | hy
      · exact e.symm
      · rcases List.mem_cons.1 hx with e | hx
        · exact e
        · exact absurd (Int.le_antisymm (hl'.1 y hy) (hm'.1 x hx)) (hd'.1 y hy)
    subst e
    rw [ord_unique l m (List.perm_cons x |>.1 h) hl'.2 hm'.2 hd'.2]

def awakeWins : List Win := [⟨0, 0, 1⟩, ⟨1, 1, 1⟩, ⟨0, 4, 1⟩, ⟨1, 7, 1⟩, ⟨0, 8, 1⟩]
def awakeParts : List Part := pairs [4, 1, 6, 1]
theorem awake_wins : winsOf 12 [⟨0, 4, 1⟩, ⟨1, 6, 1⟩] = [⟨0, 0, 1⟩, ⟨0, 4, 1⟩, ⟨0, 8, 1⟩, ⟨1, 1, 1⟩, ⟨1, 7, 1⟩] := by kernel_rfl
end Go.Proofs.Ytlmbffnmjfbglab
/- The contract of awake. -/
namespace Go.Proofs.Ytlmbffnmjfbglab
open Go.ChangeShapes Go.WideShapes Go.ChangeAt Go.RowKit

theorem RdInt.new (w : World) (l : List Int) (_hl : 0 < l.length) : RdInt (w.alloc (.cells (l.map (Value.int .i64)).toArray 3)) (w.heap.size + 1) (some ⟨w.heap.size, 0, none⟩) l := fun _ =>
  ⟨w.heap.size, 0, rfl, by omega, fun i hi => by
    rw [(Blk.new w 3 _).cell]; simp [hi]⟩

end Go.Proofs.Ytlmbffnmjfbglab
/- The frame of a law's proof: a law that returns true and leaves old memory alone meets its row; arguments opened to lists. -/
namespace Go.Proofs.Ytlmbffnmjfbglab
open Go.ChangeShapes Go.WideShapes Go.ChangeAt Go.RowKit Go.Deep

section
variable {H : Type} {enc : TypeId × Value → H} {P : Program}
theorem trodAll_stays (hl : laidOutB P = true) {W W' : World} {sp : Nat → Bool} : ∀ (ts : List TypeId) (vs : List Value) (ds : List (DataW H)) (ps : List MemPlace), (∀ t ∈ ts, P.readableRec t = true ∧ t < P.types.size) →
    DataW.TrodAll enc P W 0 (fun _ => true) true ts vs ds ps → (∀ p ∈ ps, W.sameAt W' p) → (∀ p ∈ ps, sp p.block = true) → DataW.TrodAll enc P W' 0 sp true ts vs ds ps
  | [], [], [], _, _, h, _, _ => h
  | t :: ts, v :: vs, d :: ds, ps, hr, h, hs, hsp => by
    obtain ⟨p, q, hp, hq, rfl⟩ := h
    have ht := hr t (by simp)
    exact ⟨p, q, WideElems.Trod_stays hl ht.1 ht.2 hp (fun x hx => hs x (by simp [hx])) (fun x hx => hsp x (by simp [hx])),
      trodAll_stays hl ts vs ds q (fun u hu => hr u (by simp [hu])) hq (fun x hx => hs x (by simp [hx])) (fun x hx => hsp x (by simp [hx])), rfl⟩
  | [], _ :: _, _, _, _, h, _, _ => by cases h
  | [], [], _ :: _, _, _, h, _, _ => by cases h
  | _ :: _, [], _, _, _, h, _, _ => by cases h
  | _ :: _, _ :: _, [], _, _, h, _, _ => by cases h

theorem post_of_below {f : Func} {s : ChangeSpec} {apart fresh handsOn again : Bool} {W W' : World} {args : Array Value} {v : Value} {ds gs : List (DataW H)} {before pa pv : List MemPlace}
    (hW : DataW.Whole enc P f.params.toList s.vars apart W args.toList ds gs before)
    (hres : ∀ (b : Nat) (sp : Nat → Bool) (hd : Bool), DataW.TrodAll enc P W' b sp hd f.resultTypes.toList (v.resultList f.resultTypes.size) (s.fn H (ds ++ gs)).results [])
    (hargs : ∀ sp : Nat → Bool, (∀ p ∈ before, sp p.block = true) → DataW.TrodAll enc P W' 0 sp true f.params.toList args.toList (s.fn H (ds ++ gs)).args pa)
    (hvars : ∀ sp : Nat → Bool, (∀ p ∈ before, sp p.block = true) → DataW.TrodVars enc P W' sp s.vars (s.fn H (ds ++ gs)).vars pv)
    (hps : before = pa ++ pv) (hb : Below W.heap.size W W')
    (hok : ∀ (j : Nat) (t : TypeId) (r : Value), f.resultTypes[j]? = some t → (v.resultList f.resultTypes.size)[j]? = some r → Value.okWide P W' .any 0 t r) :
    s.post enc P f apart fresh handsOn again W args v W' := by
  have hlt : ∀ p ∈ before, p.block < W.heap.size := fun p hp => hW.lt p hp
  have hold : ∀ p ∈ before, (fun b => decide (b < W.heap.size)) p.block = true := fun p hp => by simpa using hlt p hp
  refine ⟨ds, gs, before, [], pa, pv, hW, hres _ _ _, hargs _ hold, hvars _ hold, World.keptBut_mono (fun p hp => ⟨hp, ?_⟩) (hb.frame (· ∈ before)), fun _ => ?_⟩
  · rw [hps, List.mem_append] at hp
    exact Or.inr hp
  · obtain ⟨_, _, _, _, _, hz, hn⟩ := hW
    refine ⟨hok, _, _, ([] ++ pa) ++ pv, ⟨[] ++ pa, pv, trodAll_append (hargs _ (fun _ _ => rfl)) (hres _ _ _), hvars _ (fun _ _ => rfl), rfl, ?_, ?_⟩, ?_⟩
    · intro b off hp
      have hin : MemPlace.cell b off ∈ before := by rw [hps]; simpa using hp
      rw [hb.frozen (hlt _ hin)]
      exact hz b off hin
    · intro ha
      have := hn ha
      rw [hps] at this
      simpa using this
    · intro p hp _
      rw [hps]
      simpa using hp

/-- A law (one bool back, true; no named variable) that leaves old memory alone meets its row's post. -/
theorem law_post {f : Func} {s : ChangeSpec} {apart fresh handsOn again : Bool} {W W' : World} {args : Array Value} {ds gs : List (DataW H)} {before : List MemPlace} {tb : TypeId}
    (hl : laidOutB P = true) (hr : ∀ t ∈ f.params.toList, P.readableRec t = true ∧ t < P.types.size) (hrt : f.resultTypes = #[tb]) (htb : P.underlying tb = some .bool) (hsv : s.vars = [])
    (hW : DataW.Whole enc P f.params.toList s.vars apart W args.toList ds gs before)
    (hs : (s.fn H ds).results = [.lit (.bool true)] ∧ (s.fn H ds).args = ds ∧ (s.fn H ds).vars = []) (hb : Below W.heap.size W W') :
    s.post enc P f apart fresh handsOn again W args (.bool true) W' := by
  have hW' := hW
  obtain ⟨p, q, hA, hV, rfl, _, _⟩ := hW'
  rw [hsv] at hV
  obtain ⟨rfl, rfl⟩ := trodVars_none hV
  have hlt : ∀ x ∈ p ++ [], x.block < W.heap.size := fun x hx => hW.lt x hx
  refine post_of_below (pa := p) (pv := []) hW (fun b sp hd => ?_) (fun sp hsp => ?_) (fun sp _ => ?_) rfl hb ?_
  · rw [List.append_nil, hs.1, hrt]
    exact trodAll_mk1 (shut_bool htb true)
  · rw [List.append_nil, hs.2.1]
    exact trodAll_stays hl _ _ _ _ hr hA (fun x hx => hb.same (hlt x (by simp [hx]))) (fun x hx => hsp x (by simp [hx]))
  · rw [List.append_nil, hs.2.2, hsv]
    rfl
  · exact ok_one hrt rfl (okWide_bool_mk htb true)

variable {w : World} {base : Nat} {spare : Nat → Bool} {held : Bool}
theorem open_slice_fields {t e : TypeId} {fs : Array Field} {fuel : Nat} {cs : List Value} {x : DataW H × List MemPlace} (ht : P.underlying t = some (.slice e)) (he : P.underlying e = some (.struct fs))
    (hone : oneCellFields P fs = true) (hC : P.cellsOf e = fs.size) (h : DataW.trod enc P w base spare held fuel t cs = some x) :
    (cs = [.slice none 0 0] ∧ x = (.nil, [])) ∨
    ∃ (a : Addr) (len cap m : Nat) (D : Nat → DataW H) (Pl : Nat → List MemPlace), cs = [.slice (some a) len cap] ∧ base ≤ a.block ∧ len ≤ cap ∧ cap ≤ maxLen ∧ m = (if spare a.block then cap else len) ∧
      x = (.slice ((List.range len).map D) ((List.range (m - len)).map fun j => D (len + j)), MemPlace.row a (m * fs.size) ++ (List.range m).flatMap Pl) ∧
      ∀ i, i < m → ∃ (ys : List (DataW H × List MemPlace)) (n : Nat), D i = .agg (ys.map (·.1)) ∧ Pl i = ys.flatMap (·.2) ∧ ys.length = fs.size ∧
        ∀ (j : Nat) (f : Field), fs[j]? = some f → ∃ (v : Value) (y : DataW H × List MemPlace), w.cell? (a.add (i * fs.size + j)) = some v ∧ ys[j]? = some y ∧ DataW.trod enc P w base spare held n f.type [v] = some y := by
  rcases open_slice ht h with h0 | ⟨a, len, cap, m, n, D, Pl, hcs, hb, hl, hm, hmm, hx, hi⟩
  · exact .inl h0
  · refine .inr ⟨a, len, cap, m, D, Pl, hcs, hb, hl, hm, hmm, by rw [hC] at hx; exact hx, fun i him => ?_⟩
    obtain ⟨cs', hc, ht'⟩ := hi i him
    rw [hC] at hc
    obtain ⟨ys, n', hn', hy, hlen, hyl, hf⟩ := DataW.trod_struct he ht'
    obtain ⟨_, hcl, hat⟩ := World.cells?_some hc
    simp only [Prod.mk.injEq] at hy
    refine ⟨ys, n', hy.1, hy.2, hyl, fun j f hj => ?_⟩
    obtain ⟨ho, hk⟩ := hone_of hone j f hj
    have hjl : j < fs.size := (Array.getElem?_eq_some_iff.1 hj).1
    have hcell := hat j hjl
    have hv : cs'[j]? = some (cs'[j]'(by omega)) := List.getElem?_eq_getElem (by omega)
    have h1 := hf j f hj
    rw [ho, hk] at h1
    have hone' : (cs'.drop j).take 1 = [cs'[j]'(by omega)] := by
      rw [List.drop_eq_getElem_cons (by omega)]
      rfl
    rw [hone'] at h1
    have hys : ys[j]? = some (ys[j]'(by omega)) := List.getElem?_eq_getElem (by omega)
    refine ⟨_, _, ?_, hys, h1.trans hys⟩
    rw [← Go.Deep.add_add, hcell, hv]

/-- A list out of a choice at each place. -/
theorem list_of {α : Type} (n : Nat) (p : Nat → α → Prop) (h : ∀ i, i < n → ∃ x, p i x) : ∃ l : List α, l.length = n ∧ ∀ i (hi : i < l.length), p i l[i] := by
  induction n with
  | zero => exact ⟨[], rfl, fun i hi => by simp at hi⟩
  | succ n ih =>
    obtain ⟨l, hl, hp⟩ := ih fun i hi => h i (by omega)
    obtain ⟨x, hx⟩ := h n (by omega)
    refine ⟨l ++ [x], by simp [hl], fun i hi => ?_⟩
    by_cases e : i < l.length
    · rw [List.getElem_append_left e]; exact hp i e
    · have : i = l.length := by simp at hi; omega
      subst this
      simp; rw [hl]; exact hx

theorem addr_of_cell {a : Addr} {v : Value} (h : w.cell? a = some v) : a = ⟨a.block, a.off, none⟩ := by
  obtain ⟨b, o, s⟩ := a
  cases s with
  | none => rfl
  | some s =>
    unfold World.cell? at h
    split at h <;> simp at h
theorem add_none (b o j : Nat) : (⟨b, o, none⟩ : Addr).add j = ⟨b, o + j, none⟩ := by unfold Addr.add; split <;> simp_all
end

theorem own : ownKnob Try.prog.godebug = none := by kernel_rfl
theorem laid : laidOutB Try.prog = true := by kernel_rfl

def IntOk (x : Int) : Prop := -9223372036854775808 ≤ x ∧ x ≤ 9223372036854775807
theorem intOk_of {x : Int} (h : (Lit.int .i64 x).wf = true) : IntOk x := by
  simp [Lit.wf, IntKind.min, IntKind.max, IntKind.signed, IntKind.bits] at h
  exact h

set_option maxRecDepth 100000 in
/-- An argument of type []api.Window. -/
theorem open_wins {H : Type} {enc : TypeId × Value → H} {W : World} {r : Reach} {b0 : Nat} {v : Value} {d : DataW H} {p : List MemPlace} (hok : Value.okWide Try.prog W r b0 84 v) (h : DataW.Trod enc Try.prog W 0 (fun _ => true) true 84 v d p) :
    ∃ (A : Option Addr) (c : Nat) (l : List Win), v = .slice A l.length c ∧ l.length ≤ c ∧ c ≤ maxLen ∧ RdG Win.tri W W.heap.size A l ∧ ∀ x ∈ l, IntOk x.part ∧ IntOk x.start ∧ IntOk x.len := by
  obtain ⟨a, len, cap, rfl⟩ := okWide_slice Try.underlying84 hok
  obtain ⟨fuel, hf⟩ := h
  have hu : Try.prog.underlying 107 = some (.struct (Try.prog.fieldsOf 107)) := by kernel_rfl
  rcases open_slice_fields Try.underlying84 hu (by kernel_rfl) (by kernel_rfl) hf with ⟨hcs, _⟩ | ⟨a', len', cap', m, D, Pl, hcs, _, hl, hm, hmm, _, hi⟩
  · simp [Value.cells] at hcs
    obtain ⟨rfl, rfl, rfl⟩ := hcs
    exact ⟨none, 0, [], rfl, Nat.le_refl _, by simp [maxLen], fun h => absurd h (by simp), fun x hx => by simp at hx⟩
  · simp [Value.cells] at hcs
    obtain ⟨rfl, rfl, rfl⟩ := hcs
    simp at hmm
    subst hmm
    have h3 : (Try.prog.fieldsOf 107).size = 3 := by kernel_rfl
    have hex : ∀ i, i < len → ∃ x : Win, (W.cell? (a'.add (i * 3 + 0)) = some (.int .i64 x.part) ∧ W.cell? (a'.add (i * 3 + 1)) = some (.int .i64 x.start) ∧ W.cell? (a'.add (i * 3 + 2)) = some (.int .i64 x.len)) ∧ IntOk x.part ∧ IntOk x.start ∧ IntOk x.len := by
      intro i hil
      obtain ⟨ys, n, _, _, _, hf⟩ := hi i (by omega)
      rw [h3] at hf
      have f0 : (Try.prog.fieldsOf 107)[0]?.map (·.type) = some 3 := by kernel_rfl
      have f1 : (Try.prog.fieldsOf 107)[1]?.map (·.type) = some 3 := by kernel_rfl
      have f2 : (Try.prog.fieldsOf 107)[2]?.map (·.type) = some 3 := by kernel_rfl
      have get : ∀ j, (Try.prog.fieldsOf 107)[j]?.map (·.type) = some 3 → ∃ x : Int, W.cell? (a'.add (i * 3 + j)) = some (.int .i64 x) ∧ IntOk x := by
        intro j hj
        obtain ⟨f, hf', hft⟩ := Option.map_eq_some_iff.1 hj
        obtain ⟨v, y, hc, _, ht⟩ := hf j f hf'
        rw [hft] at ht
        obtain ⟨x, hx, _, hw⟩ := DataW.trod_int Try.underlying3 ht
        injection hx with hx
        subst hx
        exact ⟨x, hc, intOk_of hw⟩
      obtain ⟨x0, c0, k0⟩ := get 0 f0
      obtain ⟨x1, c1, k1⟩ := get 1 f1
      obtain ⟨x2, c2, k2⟩ := get 2 f2
      exact ⟨⟨x0, x1, x2⟩, ⟨c0, c1, c2⟩, k0, k1, k2⟩
    obtain ⟨l, hll, hlp⟩ := list_of len _ hex
    subst hll
    refine ⟨some a', _, l, rfl, hl, hm, fun hn => ?_, fun x hx => ?_⟩
    · have ha := addr_of_cell (hlp 0 hn).1.1
      have hblk := World.block_lt_of_cell? W _ (hlp 0 hn).1.1
      have ea : a' = ⟨a'.block, a'.off, none⟩ := by
        have : a'.add (0 * 3 + 0) = a' := by simp [Addr.add]
        rw [this] at ha; exact ha
      refine ⟨a'.block, a'.off, by rw [← ea], ?_, fun i hil => ?_⟩
      · have : a'.add (0 * 3 + 0) = a' := by simp [Addr.add]
        rw [this] at hblk; exact hblk
      · obtain ⟨⟨c0, c1, c2⟩, _⟩ := hlp i hil
        rw [ea, add_none] at c0 c1 c2
        exact ⟨c0, c1, c2⟩
    · obtain ⟨i, hil, rfl⟩ := List.getElem_of_mem hx
      exact (hlp i hil).2

def PartOk (x : Part) : Prop := IntOk x.period ∧ IntOk x.length ∧ IntOk x.mem ∧ IntOk x.events ∧ IntOk x.boards
section
variable {H : Type} {enc : TypeId × Value → H} {P : Program} {w : World} {base : Nat} {spare : Nat → Bool} {held : Bool}
theorem slv_of {t e : TypeId} {fuel : Nat} {v : Value} {x : DataW H × List MemPlace} (ht : P.underlying t = some (.slice e)) (h : DataW.trod enc P w base spare held fuel t [v] = some x) : ∃ s : SlV, v = .slice s.a s.n s.c := by
  rcases DataW.trod_slice ht h with ⟨hcs, _⟩ | ⟨a, len, cap, _, _, _, _, hcs, _⟩
  · injection hcs with hcs; exact ⟨⟨none, 0, 0⟩, hcs⟩
  · injection hcs with hcs; exact ⟨⟨some a, len, cap⟩, hcs⟩
end

set_option maxRecDepth 100000 in
set_option maxHeartbeats 1000000 in
theorem open_parts {H : Type} {enc : TypeId × Value → H} {W : World} {fuel : Nat} {v : Value} {y : DataW H × List MemPlace} (hf : DataW.trod enc Try.prog W 0 (fun _ => true) true fuel 22 [v] = some y) :
    ∃ (A : Option Addr) (c : Nat) (l : List Part), v = .slice A l.length c ∧ l.length ≤ c ∧ c ≤ maxLen ∧ RdPart W W.heap.size A l ∧ ∀ x ∈ l, PartOk x := by
  have hu : Try.prog.underlying 56 = some (.struct (Try.prog.fieldsOf 56)) := by kernel_rfl
  rcases open_slice_fields Try.underlying22 hu (by kernel_rfl) (by kernel_rfl) hf with ⟨hcs, _⟩ | ⟨a', len, cap, m, D, Pl, hcs, _, hl, hm, hmm, _, hi⟩
  · injection hcs with hcs
    subst hcs
    exact ⟨none, 0, [], rfl, Nat.le_refl _, by simp [maxLen], fun h => absurd h (by simp), fun x hx => by simp at hx⟩
  · injection hcs with hcs
    subst hcs
    simp at hmm
    subst hmm
    have h3 : (Try.prog.fieldsOf 56).size = 10 := by kernel_rfl
    have hex : ∀ i, i < len → ∃ x : Part, (∀ j v, x.cells[j]? = some v → W.cell? (a'.add (i * 10 + j)) = some v) ∧ PartOk x := by
      intro i hil
      obtain ⟨ys, n, _, _, _, hf⟩ := hi i (by omega)
      rw [h3] at hf
      have geti : ∀ j, (Try.prog.fieldsOf 56)[j]?.map (·.type) = some 3 → ∃ x : Int, W.cell? (a'.add (i * 10 + j)) = some (.int .i64 x) ∧ IntOk x := by
        intro j hj
        obtain ⟨f, hf', hft⟩ := Option.map_eq_some_iff.1 hj
        obtain ⟨v, y, hc, _, ht⟩ := hf j f hf'
        rw [hft] at ht
        obtain ⟨x, hx, _, hw⟩ := DataW.trod_int Try.underlying3 ht
        injection hx with hx
        subst hx
        exact ⟨x, hc, intOk_of hw⟩
      have gets : ∀ j t e, (Try.prog.fieldsOf 56)[j]?.map (·.type) = some t → Try.prog.underlying t = some (.slice e) → ∃ s : SlV, W.cell? (a'.add (i * 10 + j)) = some (.slice s.a s.n s.c) := by
        intro j t e hj hte
        obtain ⟨f, hf', hft⟩ := Option.map_eq_some_iff.1 hj
        obtain ⟨v, y, hc, _, ht⟩ := hf j f hf'
        rw [hft] at ht
        obtain ⟨s, rfl⟩ := slv_of hte ht
        exact ⟨s, hc⟩
      have getn : ∃ s : ByteArray, W.cell? (a'.add (i * 10 + 0)) = some (.string s) := by
        obtain ⟨f, hf', hft⟩ := Option.map_eq_some_iff.1 (show (Try.prog.fieldsOf 56)[0]?.map (·.type) = some 9 by kernel_rfl)
        obtain ⟨v, y, hc, _, ht⟩ := hf 0 f hf'
        rw [hft] at ht
        obtain ⟨x, hx, _, _⟩ := DataW.trod_string Try.underlying9 ht
        injection hx with hx
        subst hx
        exact ⟨x, hc⟩
      obtain ⟨x0, c0⟩ := getn
      obtain ⟨x1, c1, k1⟩ := geti 1 (by kernel_rfl)
      obtain ⟨x2, c2, k2⟩ := geti 2 (by kernel_rfl)
      obtain ⟨x3, c3, k3⟩ := geti 3 (by kernel_rfl)
      obtain ⟨x4, c4⟩ := gets 4 28 3 (by kernel_rfl) Try.underlying28
      obtain ⟨x5, c5, k5⟩ := geti 5 (by kernel_rfl)
      obtain ⟨x6, c6, k6⟩ := geti 6 (by kernel_rfl)
      obtain ⟨x7, c7⟩ := gets 7 28 3 (by kernel_rfl) Try.underlying28
      obtain ⟨x8, c8⟩ := gets 8 53 128 (by kernel_rfl) Try.underlying53
      obtain ⟨x9, c9⟩ := gets 9 54 132 (by kernel_rfl) Try.underlying54
      refine ⟨⟨x0, x1, x2, x3, x4, x5, x6, x7, x8, x9⟩, fun j v hv => ?_, k1, k2, k3, k5, k6⟩
      match j with
      | 0 => injection hv with hv; subst hv; exact c0
      | 1 => injection hv with hv; subst hv; exact c1
      | 2 => injection hv with hv; subst hv; exact c2
      | 3 => injection hv with hv; subst hv; exact c3
      | 4 => injection hv with hv; subst hv; exact c4
      | 5 => injection hv with hv; subst hv; exact c5
      | 6 => injection hv with hv; subst hv; exact c6
      | 7 => injection hv with hv; subst hv; exact c7
      | 8 => injection hv with hv; subst hv; exact c8
      | 9 => injection hv with hv; subst hv; exact c9
      | j + 10 => simp [Part.cells] at hv
    obtain ⟨l, hll, hlp⟩ := list_of len _ hex
    subst hll
    refine ⟨some a', _, l, rfl, hl, hm, fun hn => ?_, fun x hx => ?_⟩
    · have hc0 := (hlp 0 hn).1 0 _ rfl
      have e0 : a'.add (0 * 10 + 0) = a' := by simp [Addr.add]
      rw [e0] at hc0
      have ea := addr_of_cell hc0
      refine ⟨a'.block, a'.off, by rw [← ea], World.block_lt_of_cell? W _ hc0, fun i hil j v hv => ?_⟩
      have h1 := (hlp i hil).1 j v hv
      rw [ea, add_none] at h1
      rw [Nat.add_assoc]
      exact h1
    · obtain ⟨i, hil, rfl⟩ := List.getElem_of_mem hx
      exact (hlp i hil).2

set_option maxRecDepth 100000 in
theorem open_module {H : Type} {enc : TypeId × Value → H} {W : World} {r : Reach} {b0 : Nat} {v : Value} {d : DataW H} {p : List MemPlace} (hok : Value.okWide Try.prog W r b0 24 v) (h : DataW.Trod enc Try.prog W 0 (fun _ => true) true 24 v d p) :
    ∃ (name : ByteArray) (mem frame : Int) (A : Option Addr) (c : Nat) (l : List Part), v = .agg #[.string name, .int .i64 mem, .int .i64 frame, .slice A l.length c] ∧ IntOk mem ∧ IntOk frame ∧ l.length ≤ c ∧ c ≤ maxLen ∧ RdPart W W.heap.size A l ∧ ∀ x ∈ l, PartOk x := by
  obtain ⟨f0, f1, f2, f3, hs, ht0, ht1, ht2, ht3⟩ : ∃ f0 f1 f2 f3 : Field, Try.prog.underlying 24 = some (.struct #[f0, f1, f2, f3]) ∧ f0.type = 9 ∧ f1.type = 3 ∧ f2.type = 3 ∧ f3.type = 22 := ⟨_, _, _, _, Try.underlying24, rfl, rfl, rfl, rfl⟩
  have hone : oneCellFields Try.prog #[f0, f1, f2, f3] = true := by
    have e : oneCellFields Try.prog (Try.prog.fieldsOf 24) = true := by kernel_rfl
    have e2 : Try.prog.fieldsOf 24 = #[f0, f1, f2, f3] := by simp [Program.fieldsOf, hs]
    rw [e2] at e; exact e
  obtain ⟨v0, v1, v2, v3, y0, y1, y2, y3, n, rfl, _, _, g0, g1, g2, g3⟩ := Joins.open_agg4 hs hone (by kernel_rfl) hok h
  rw [ht0] at g0
  rw [ht1] at g1
  rw [ht2] at g2
  rw [ht3] at g3
  obtain ⟨name, e0, _, _⟩ := DataW.trod_string Try.underlying9 g0
  obtain ⟨mem, e1, _, k1⟩ := DataW.trod_int Try.underlying3 g1
  obtain ⟨frame, e2, _, k2⟩ := DataW.trod_int Try.underlying3 g2
  obtain ⟨A, c, l, rfl, hlc, hcm, hR, hP⟩ := open_parts g3
  injection e0 with e0
  injection e1 with e1
  injection e2 with e2
  subst e0 e1 e2
  exact ⟨name, mem, frame, A, c, l, rfl, intOk_of k1, intOk_of k2, hlc, hcm, hR, hP⟩


set_option maxRecDepth 100000 in
theorem open_slot {H : Type} {enc : TypeId × Value → H} {W : World} {r : Reach} {b0 : Nat} {v : Value} {d : DataW H} {p : List MemPlace} (hok : Value.okWide Try.prog W r b0 46 v) (h : DataW.Trod enc Try.prog W 0 (fun _ => true) true 46 v d p) :
    ∃ x : Slot, v = .agg #[.int .i64 x.off, .int .i64 x.per, .int .i64 x.len] ∧ IntOk x.off ∧ IntOk x.per ∧ IntOk x.len := by
  obtain ⟨f0, f1, f2, hs, ht0, ht1, ht2⟩ : ∃ f0 f1 f2 : Field, Try.prog.underlying 46 = some (.struct #[f0, f1, f2]) ∧ f0.type = 3 ∧ f1.type = 3 ∧ f2.type = 3 := ⟨_, _, _, Try.underlying46, rfl, rfl, rfl⟩
  have hone : oneCellFields Try.prog #[f0, f1, f2] = true := by
    have e : oneCellFields Try.prog (Try.prog.fieldsOf 46) = true := by kernel_rfl
    have e2 : Try.prog.fieldsOf 46 = #[f0, f1, f2] := by simp [Program.fieldsOf, hs]
    rw [e2] at e; exact e
  obtain ⟨v0, v1, v2, y0, y1, y2, n, rfl, _, _, g0, g1, g2⟩ := Joins.open_agg3 hs hone (by kernel_rfl) hok h
  rw [ht0] at g0
  rw [ht1] at g1
  rw [ht2] at g2
  obtain ⟨a, e0, _, k0⟩ := DataW.trod_int Try.underlying3 g0
  obtain ⟨b, e1, _, k1⟩ := DataW.trod_int Try.underlying3 g1
  obtain ⟨c, e2, _, k2⟩ := DataW.trod_int Try.underlying3 g2
  injection e0 with e0
  injection e1 with e1
  injection e2 with e2
  subst e0 e1 e2
  exact ⟨⟨a, b, c⟩, rfl, intOk_of k0, intOk_of k1, intOk_of k2⟩

set_option maxRecDepth 100000 in
theorem open_ints1 {H : Type} {enc : TypeId × Value → H} {W : World} {r : Reach} {b0 : Nat} {v : Value} {d : DataW H} {p : List MemPlace} (hok : Value.okWide Try.prog W r b0 28 v) (h : DataW.Trod enc Try.prog W 0 (fun _ => true) true 28 v d p) :
    ∃ (A : Option Addr) (c : Nat) (l : List Int), v = .slice A l.length c ∧ l.length ≤ c ∧ c ≤ maxLen ∧ RdInt W W.heap.size A l ∧ ∀ x ∈ l, IntOk x := by
  obtain ⟨a, len, cap, rfl⟩ := okWide_slice Try.underlying28 hok
  obtain ⟨fuel, hf⟩ := h
  rcases open_ints Try.underlying28 Try.underlying3 (by kernel_rfl) hf with ⟨hcs, _⟩ | ⟨a', len', cap', zs, hcs, _, hl, hm, hz, _, hc, hw⟩
  · simp [Value.cells] at hcs
    obtain ⟨rfl, rfl, rfl⟩ := hcs
    exact ⟨none, 0, [], rfl, Nat.le_refl _, by simp [maxLen], fun h => absurd h (by simp), fun x hx => by simp at hx⟩
  · simp [Value.cells] at hcs
    obtain ⟨rfl, rfl, rfl⟩ := hcs
    simp at hz
    have hlen : (zs.take len).length = len := by rw [List.length_take]; omega
    refine ⟨some a', cap, zs.take len, by rw [hlen], by rw [hlen]; exact hl, hm, fun hn => ?_, fun x hx => intOk_of (hw x (List.mem_of_mem_take hx))⟩
    rw [hlen] at hn
    have hc0 := hc 0 (by omega)
    have e0 : a'.add 0 = a' := by simp [Addr.add]
    rw [e0] at hc0
    have ea := addr_of_cell hc0
    refine ⟨a'.block, a'.off, by rw [← ea], World.block_lt_of_cell? W _ hc0, fun i hi => ?_⟩
    rw [hlen] at hi
    have h1 := hc i (by omega)
    rw [ea, add_none] at h1
    rw [List.getElem_take]
    have hzz : zs.getD i 0 = zs[i]'(by omega) := by simp [List.getD, show i < zs.length by omega]
    rw [hzz] at h1
    exact h1
end Go.Proofs.Ytlmbffnmjfbglab
/- The contract of Fits. -/
namespace Go.Proofs.Ytlmbffnmjfbglab
open Go.ChangeShapes Go.WideShapes Go.ChangeAt Go.RowKit

theorem info3 : (Try.prog.info? 3).map (fun i => (i.zero, i.size, i.bytes)) = some (some (.int .i64 0), 1, 8) := by kernel_rfl
theorem RdInt.of_own {w : World} {base : Nat} {v : Value} {n : Nat} {l : List Int} (hn : n = l.length) (h : w.ownsRow base 3 1 v n (l.map (Value.int .i64))) : ∃ A c, v = .slice A n c ∧ RdInt w w.heap.size A l := by
  subst hn
  rcases h.2 with ⟨rfl, h0⟩ | ⟨g, cap, cur, rfl, _, hh, _⟩
  · exact ⟨none, 0, by rw [h0], fun h => by omega⟩
  · refine ⟨_, cap, rfl, fun hn => ⟨g, 0, rfl, (h.lt g rfl).2, fun i hi => ?_⟩⟩
    have := h.cells (g := g) rfl i (.int .i64 l[i]) (by simp [hi])
    rw [add_none] at this
    exact this

end Go.Proofs.Ytlmbffnmjfbglab
