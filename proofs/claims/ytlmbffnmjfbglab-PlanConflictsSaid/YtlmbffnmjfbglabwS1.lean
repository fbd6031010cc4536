/- The contract of slices.SortFunc at windows, sorted by their starts. -/
import Derived.Test.YtlmbffnmjfbglabwS0
namespace Go.Proofs.Ytlmbffnmjfbglab
open Go.ChangeShapes Go.WideShapes Go.ChangeAt Go.RowKit Go.Sort

def cmpI (x y : Int) : Int := if x < y then -1 else if x = y then 0 else 1

theorem compare_c (x y : Int) (w : World) : Calls Try.prog 95 #[.int .i64 x, .int .i64 y] w fun e w' => e = .returned (.int .i64 (cmpI x y)) ∧ w = w' := by
  by_cases h1 : x < y
  · have hx : Hid (cmpI x y = -1) := by simp [cmpI, Hid, h1]
    have e1 : (x != x) = false := by simp
    have e2 : (y != y) = false := by simp
    go_enter Try.func95, Try.ntmps95
    go_wp2
    go_ret
    exact ⟨ret_int hx.out.symm, rfl⟩
  · by_cases h2 : x = y
    · subst h2
      have hx : Hid (cmpI x x = 0) := by simp [cmpI, Hid]
      have e1 : (x != x) = false := by simp
      go_enter Try.func95, Try.ntmps95
      go_wp2
      go_ret
      exact ⟨ret_int hx.out.symm, rfl⟩
    · have hx : Hid (cmpI x y = 1) := by simp [cmpI, Hid, h1, h2]
      have e1 : (x != x) = false := by simp
      have e2 : (y != y) = false := by simp
      have e3 : y < x := by omega
      go_enter Try.func95, Try.ntmps95
      go_wp2
      go_ret
      exact ⟨ret_int hx.out.symm, rfl⟩

def baseCmp (r s : Win) : Int := cmpI r.start s.start
theorem swo_base : SWO (Go.Proofs.ltOf baseCmp) := by
  have e : ∀ x y : Win, Go.Proofs.ltOf baseCmp x y = decide (x.start < y.start) := fun x y => by
    unfold Go.Proofs.ltOf baseCmp cmpI
    by_cases h : x.start < y.start
    · simp [h]
    · by_cases h2 : x.start = y.start <;> simp [h, h2]
  refine ⟨fun x => by rw [e]; simp, fun x y z => by rw [e, e, e]; simp; omega, fun x y z => by rw [e, e, e]; simp; omega⟩

theorem drewN_two (w : World) (a b : Nat) : (w.drewN a).drewN b = w.drewN (a + b) := by simp [World.drewN, Nat.add_assoc]
/-- a world that has only grown and drawn. -/
structure ExtG (w0 : World) where
  w : World
  h : ∃ q os, w = Go.Sort.grow (w0.drewN q) os
instance (w0 : World) : Nonempty (ExtG w0) := ⟨⟨w0, 0, #[], by simp; rfl⟩⟩
theorem grow_cell (w : World) (os : Array Obj) (b o : Nat) (h : b < w.heap.size) : (grow w os).cell? ⟨b, o, none⟩ = w.cell? ⟨b, o, none⟩ := by
  have : (grow w os).heap[b]? = w.heap[b]? := by simp only [grow]; exact Array.getElem?_append_left h
  exact World.cell?_of_block this
theorem extG_cell (w0 : World) : ∀ (x : ExtG w0) b o, b < w0.heap.size → x.w.cell? ⟨b, o, none⟩ = w0.cell? ⟨b, o, none⟩ := fun x b o hb => by
  obtain ⟨q, os, e⟩ := x.h
  rw [e, grow_cell (w0.drewN q) os b o hb]; rfl
theorem wp_region_extG {P : Program} {id : Nat} {Q : Exit → Act → World → Prop} {a : Act} {w : World} {l : List Oper} (hm : P.follows .mixedOrders = true) (hB : Region.lexB .any l.toArray = true)
    (h : wpQuiet P l.toArray (fun w' => ∃ x : ExtG w, w' = x.w) (fun a' => ∀ w', (∃ x : ExtG w, w' = x.w) → Q .normal a' w') l a) : (Code.region id l.toArray true).wp P Q a w :=
  wp_region_quiet (C := fun w' => ∃ x : ExtG w, w' = x.w) hm hB ⟨⟨w.drew, 1, #[], by simp; rfl⟩, rfl⟩ (by simpa using h)
theorem extG_call {P : Program} {f : FuncId} {args : Array Value} {w0 : World} {x : ExtG w0} {v : Value} (h : Calls P f args x.w fun e w' => e = .returned v ∧ ∃ q os', w' = grow (x.w.drewN q) os') :
    Calls P f args x.w fun e w'' => e = .returned v ∧ ∃ y : ExtG w0, w'' = y.w :=
  h.mono fun _ w' ⟨he, q, os', hw⟩ => ⟨he, ⟨w', by
    obtain ⟨q0, os0, e0⟩ := x.h
    refine ⟨q0 + q, os0 ++ os', ?_⟩
    rw [hw, e0, ← grow_grow, ← drewN_two]
    rfl⟩, rfl⟩

theorem key_c (r : Win) (W : World) : Calls Try.prog 80 #[.agg #[.int .i64 r.part, .int .i64 r.start, .int .i64 r.len]] W fun e w' => e = .returned (.int .i64 r.start) ∧ ∃ q os', w' = grow (W.drewN q) os' := by
  go_enter Try.func80, Try.ntmps80
  go_wp2
  go_ret
  exact ⟨rfl, 0, _, by rw [alloc_eq_grow]; rfl⟩

theorem order_c (r s : Win) (Bk : Nat) (W : World) (hc : W.cell? ⟨Bk, 0, none⟩ = some (.func (.func 80) #[] #[])) (hB : Bk < W.heap.size) : Calls Try.prog 94 #[.agg #[.int .i64 r.part, .int .i64 r.start, .int .i64 r.len], .agg #[.int .i64 s.part, .int .i64 s.start, .int .i64 s.len], .pointer (some ⟨Bk, 0, none⟩)] W fun e w' => e = .returned (.int .i64 (baseCmp r s)) ∧ ∃ q os', w' = grow (W.drewN q) os' := by
  have hcon := fun W' => compare_c r.start s.start W'
  have hk1 := fun W' => key_c r W'
  have hk2 := fun W' => key_c s W'
  unfold baseCmp
  generalize cmpI r.start s.start = c at hcon ⊢
  obtain ⟨p, st, l⟩ := r
  obtain ⟨p', st', l'⟩ := s
  simp only at *
  go_enter Try.func94, Try.ntmps94
  go_wp2_with fail
  refine nameW fun W0 hW0 => ?_
  have hz : W0.heap.size = W.heap.size + 2 := by subst hW0; simp
  have c0 : Blk W0 W.heap.size 107 #[.int .i64 p, .int .i64 st, .int .i64 l] := by subst hW0; exact (Blk.new _ _ _).alloc _
  have c1 : Blk W0 (W.heap.size + 1) 107 #[.int .i64 p', .int .i64 st', .int .i64 l'] := by subst hW0; have := Blk.new (W.alloc (.cells #[.int .i64 p, .int .i64 st, .int .i64 l] 107)) 107 #[.int .i64 p', .int .i64 st', .int .i64 l']; rwa [World.size_alloc] at this
  have ck : W0.cell? ⟨Bk, 0, none⟩ = some (.func (.func 80) #[] #[]) := by subst hW0; rw [World.cell?_alloc_lt _ _ _ (by simp; omega), World.cell?_alloc_lt _ _ _ hB]; exact hc
  have hG : ∃ q os', W0 = grow (W.drewN q) os' := by subst hW0; exact ⟨0, _, by rw [alloc_eq_grow, alloc_eq_grow, grow_grow]; rfl⟩
  have z1 : W.heap.size < W0.heap.size := by omega
  have z2 : W.heap.size + 1 < W0.heap.size := by omega
  have z3 : Bk < W0.heap.size := by omega
  clear hW0 hc hz
  have e0 : W0.cell? ⟨W.heap.size, 0, none⟩ = some (.int .i64 p) := c0.cell 0
  have e1 : W0.cell? ⟨W.heap.size, 1, none⟩ = some (.int .i64 st) := c0.cell 1
  have e2 : W0.cell? ⟨W.heap.size, 2, none⟩ = some (.int .i64 l) := c0.cell 2
  have e3 : W0.cell? ⟨W.heap.size + 1, 0, none⟩ = some (.int .i64 p') := c1.cell 0
  have e4 : W0.cell? ⟨W.heap.size + 1, 1, none⟩ = some (.int .i64 st') := c1.cell 1
  have e5 : W0.cell? ⟨W.heap.size + 1, 2, none⟩ = some (.int .i64 l') := c1.cell 2
  have hcc : ∀ x : ExtG W0, Calls Try.prog 95 #[.int .i64 st, .int .i64 st'] x.w fun e w' => e = .returned (.int .i64 c) ∧ ∃ q os', w' = grow (x.w.drewN q) os' := fun x => (hcon x.w).mono fun _ _ ⟨h1, h2⟩ => ⟨h1, 0, #[], by subst h2; simp; rfl⟩
  clear hcon c0 c1
  have hec := extG_cell W0
  refine wp_region_extG (by kernel_rfl) (by kernel_rfl) ?_
  repeat (go_big_quiet_step ((first | (go_at_call 95; exact extG_call (hcc _)) | (go_at_call 80; first | with_reducible exact extG_call (hk1 _) | with_reducible exact extG_call (hk2 _)))))
  refine wpQuiet_nil ?_
  rintro w' ⟨x, rfl⟩
  have hx := x.h
  clear hec hk1 hk2 hcc
  generalize x.w = w' at hx ⊢
  go_wp2
  go_ret
  obtain ⟨q, os, rfl⟩ := hx
  obtain ⟨q0, os0, rfl⟩ := hG
  exact ⟨rfl, q0 + q, os0 ++ os, by rw [← grow_grow, ← drewN_two]; rfl⟩

/-- What the sort says of the world: the row holds a permutation, sorted by the bases; nothing else has turned. -/
def Sorted1 (w : World) (g cap : Nat) (l : List Win) (e : Ending) (w' : World) : Prop := ∃ l' : List Win, e = .returned (.tuple #[]) ∧ l'.Perm l ∧ (∀ i j (h : i < j) (hj : j < l'.length), l'[i].start ≤ l'[j].start) ∧ Row w' g cap l' ∧ w.grownBy w' (some g)

set_option maxRecDepth 100000 in
theorem sort_c (g cap Bk : Nat) (l : List Win) (w : World) (h : Row w g cap l) (hl : l.length ≤ 1000000) (hk : w.cell? ⟨Bk, 0, none⟩ = some (.func (.func 80) #[] #[])) (hkg : Bk ≠ g) (hkB : Bk < w.heap.size) :
    Calls Try.prog 93 #[.slice (some ⟨g, 0, none⟩) l.length cap, .func (.func 94) #[] #[.pointer (some ⟨Bk, 0, none⟩)]] w (Sorted1 w g cap l) := by
  have hg : g < w.heap.size := by obtain ⟨cur, hh, _⟩ := h; exact Blk.lt (t := 107) hh
  have hcmp : Go.Proofs.CmpLays Try.prog 94 #[.pointer (some ⟨Bk, 0, none⟩)] (cellsG Win.tri) 3 baseCmp g 0 l.toArray.size w := fun m os dk hdk x y => by
    have hgr := (row_sorted h m dk (by simpa using hdk) os).2
    exact order_c x y Bk _ ((World.cell?_of_block (hgr.block Bk hkB (fun e => hkg (by injection e)))).trans hk) (Nat.lt_of_lt_of_le hkB hgr.size)
  have hlim : Lib.bitLen l.toArray.size < 4611686018427387904 := Nat.lt_of_le_of_lt (Lib.bitLen_le l.toArray.size 62 (by omega) (by simp; omega)) (by omega)
  have hp := Go.Proofs.AnyQ.pdqsortCmpFunc_all Go.Proofs.Try.sortWins 3 Go.Proofs.Try.isAgg107 Go.Proofs.Try.sizeOf107 (cellsG Win.tri) baseCmp 94 #[.pointer (some ⟨Bk, 0, none⟩)] swo_base g 0 cap l.toArray w
    (enters_of Try.func94 (by kernel_rfl) rfl) hcmp ⟨fun _ => rfl, fun x v hv => by simp [cellsG] at hv; rcases hv with rfl | rfl | rfl <;> rfl, row_holds h, hg⟩ (l.toArray.size + 1) 0 l.toArray.size (Lib.bitLen l.toArray.size) l.toArray w (by omega) rfl (Go.Proofs.SWK.start (row_holds h)) (Nat.zero_le _) (Nat.le_refl _) (by simp; omega) hlim (Or.inl rfl)
  change Calls Try.prog 104 _ _ _ at hp
  have hb : Calls Try.prog 105 #[.int .u64 (l.length : Int)] w fun e w' => e = .returned (.int .i64 (Lib.bitLen l.length : Nat)) ∧ w' = w := by
    have h := Go.Proofs.Any.bits_Len (Go.Proofs.SlLaysF0.n15.bits (P := Try.prog) (ρ := Go.Proofs.Try.sortWins_ren) { Go.Proofs.Try.sortWins with }) (l.length : Int) w (by omega) (by omega)
    rwa [Int.toNat_natCast] at h
  have hps := pdq_sorts (Go.Proofs.ltOf baseCmp) swo_base l.toArray 0 l.toArray.size (Lib.bitLen l.toArray.size) true true (Nat.zero_le _) (Nat.le_refl _) (Or.inl rfl)
  simp only [List.size_toArray] at hp hps
  generalize pdq (Go.Proofs.ltOf baseCmp) l.toArray 0 l.length (Lib.bitLen l.length) true true = d at hp hps
  obtain ⟨⟨hsz, _, hperm⟩, hsort⟩ := hps
  have hsz' : d.size = l.length := by simpa using hsz
  have hfin : ∀ n os, Row (sortWorldK (cellsG Win.tri) 3 w g 0 n d os) g cap d.toList ∧ w.grownBy (sortWorldK (cellsG Win.tri) 3 w g 0 n d os) (some g) := fun n os => row_sorted h n d hsz' os
  have hperm' : d.toList.Perm l := by
    have e : d.extract 0 l.length = d := by rw [← hsz']; simp
    have e2 : (l.toArray.extract 0 l.length).toList = l := by simp
    rw [e, e2] at hperm
    exact hperm
  have hsort' : ∀ i j (h : i < j) (hj : j < d.toList.length), d.toList[i].start ≤ d.toList[j].start := by
    intro i j hij hj
    have hj' : j < d.size := by simpa using hj
    have := hsort i j (Nat.zero_le _) hij (by omega)
    rw [getElem!_pos d i (by omega), getElem!_pos d j hj'] at this
    simp only [Array.getElem_toList]
    unfold Go.Proofs.ltOf baseCmp cmpI at this
    by_cases hlt : d[j].start < d[i].start
    · simp [hlt] at this
    · omega
  have Hfin := Lib.hid hfin
  have Hperm := Lib.hid hperm'
  have Hsort := Lib.hid hsort'
  have wr : IntKind.u64.wrap (l.length : Int) = l.length := by simp [IntKind.wrap, IntKind.bits, IntKind.signed]; omega
  clear hfin hperm' hsort' hperm hsort hsz hsz' hcmp h hlim hk hkg
  go_enter Try.func93, Try.ntmps93
  go_wp2_with (first | (go_at_call 105; refine hb.mono ?_; rintro e w' ⟨rfl, rfl⟩) | (go_at_call 104; refine hp.mono ?_; rintro e w' ⟨rfl, n, os, rfl⟩))
  go_end0
  exact ⟨d.toList, rfl, Hperm.out, Hsort.out, Hfin.out n os⟩

end Go.Proofs.Ytlmbffnmjfbglab
