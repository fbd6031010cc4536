/- The contract of slices.SortFunc at regions, sorted by their bases. -/
import Derived.Test.YtjgmdchlgabflaaS0
import Derived.Shelf.SlSortCmp.NoneTotal
namespace Go.Proofs.Ytjgmdchlgabflaa
open Go.ChangeShapes Go.WideShapes Go.ChangeAt Go.RowKit Go.Sort

def cmpI (x y : Int) : Int := if x < y then -1 else if x = y then 0 else 1

theorem compare_c (x y : Int) (w : World) : Calls Try.prog 52 #[.int .i64 x, .int .i64 y] w fun e w' => e = .returned (.int .i64 (cmpI x y)) ∧ w = w' := by
  by_cases h1 : x < y
  · have hx : Hid (cmpI x y = -1) := by simp [cmpI, Hid, h1]
    have e1 : (x != x) = false := by simp
    have e2 : (y != y) = false := by simp
    go_enter Try.func52, Try.ntmps52
    go_wp2
    go_ret
    exact ⟨ret_int hx.out.symm, rfl⟩
  · by_cases h2 : x = y
    · subst h2
      have hx : Hid (cmpI x x = 0) := by simp [cmpI, Hid]
      have e1 : (x != x) = false := by simp
      go_enter Try.func52, Try.ntmps52
      go_wp2
      go_ret
      exact ⟨ret_int hx.out.symm, rfl⟩
    · have hx : Hid (cmpI x y = 1) := by simp [cmpI, Hid, h1, h2]
      have e1 : (x != x) = false := by simp
      have e2 : (y != y) = false := by simp
      have e3 : y < x := by omega
      go_enter Try.func52, Try.ntmps52
      go_wp2
      go_ret
      exact ⟨ret_int hx.out.symm, rfl⟩

def baseCmp (r s : Reg) : Int := cmpI r.base s.base
theorem swo_base : SWO (Go.Proofs.ltOf baseCmp) := by
  have e : ∀ x y : Reg, Go.Proofs.ltOf baseCmp x y = decide (x.base < y.base) := fun x y => by
    unfold Go.Proofs.ltOf baseCmp cmpI
    by_cases h : x.base < y.base
    · simp [h]
    · by_cases h2 : x.base = y.base <;> simp [h, h2]
  refine ⟨fun x => by rw [e]; simp, fun x y z => by rw [e, e, e]; simp; omega, fun x y z => by rw [e, e, e]; simp; omega⟩

theorem valid2_c (r s : Reg) (W : World) : Calls Try.prog 51 #[.agg #[.int .i64 r.part, .int .i64 r.base, .int .i64 r.size], .agg #[.int .i64 s.part, .int .i64 s.base, .int .i64 s.size]] W fun e w' => e = .returned (.int .i64 (baseCmp r s)) ∧ ∃ q os', w' = grow (W.drewN q) os' := by
  have hcon := fun W' => compare_c r.base s.base W'
  unfold baseCmp
  generalize cmpI r.base s.base = c at hcon ⊢
  go_enter Try.func51, Try.ntmps51
  go_wp2_with (go_at_call 52; refine (hcon _).mono ?_; rintro e w' ⟨rfl, rfl⟩)
  go_ret
  exact ⟨rfl, 0, _, by rw [alloc_eq_grow, alloc_eq_grow, grow_grow]; rfl⟩

/-- What the sort says of the world: the row holds a permutation, sorted by the bases; nothing else has turned. -/
def Sorted1 (w : World) (g cap : Nat) (l : List Reg) (e : Ending) (w' : World) : Prop := ∃ l' : List Reg, e = .returned (.tuple #[]) ∧ l'.Perm l ∧ (∀ i j (h : i < j) (hj : j < l'.length), l'[i].base ≤ l'[j].base) ∧ Row w' g cap l' ∧ w.grownBy w' (some g)

set_option maxRecDepth 100000 in
theorem sort_c (g cap : Nat) (l : List Reg) (w : World) (h : Row w g cap l) (hl : l.length ≤ 1000) :
    Calls Try.prog 50 #[.slice (some ⟨g, 0, none⟩) l.length cap, .func (.func 51) #[] #[]] w (Sorted1 w g cap l) := by
  have hg : g < w.heap.size := by obtain ⟨cur, hh, _⟩ := h; exact Blk.lt (t := 42) hh
  have hcmp : Go.Proofs.CmpLays Try.prog 51 #[] Reg.cells 3 baseCmp g 0 l.toArray.size w := fun m os dk _ x y => valid2_c x y _
  have hlim : Lib.bitLen l.toArray.size < 4611686018427387904 := Nat.lt_of_le_of_lt (Lib.bitLen_le l.toArray.size 62 (by omega) (by simp; omega)) (by omega)
  have hp := Go.Proofs.AnyQ.pdqsortCmpFunc_all Go.Proofs.Try.sortRegs 3 Go.Proofs.Try.isAgg42 Go.Proofs.Try.sizeOf42 Reg.cells baseCmp 51 #[] swo_base g 0 cap l.toArray w
    (enters_of Try.func51 (by kernel_rfl) rfl) hcmp ⟨fun _ => rfl, fun x v hv => by simp [Reg.cells] at hv; rcases hv with rfl | rfl | rfl <;> rfl, row_holds h, hg⟩ (l.toArray.size + 1) 0 l.toArray.size (Lib.bitLen l.toArray.size) l.toArray w (by omega) rfl (Go.Proofs.SWK.start (row_holds h)) (Nat.zero_le _) (Nat.le_refl _) (by simp; omega) hlim (Or.inl rfl)
  change Calls Try.prog 56 _ _ _ at hp
  have hb : Calls Try.prog 57 #[.int .u64 (l.length : Int)] w fun e w' => e = .returned (.int .i64 (Lib.bitLen l.length : Nat)) ∧ w' = w := by
    have h := Go.Proofs.Any.bits_Len (Go.Proofs.SlLaysF0.n15.bits (P := Try.prog) (ρ := Go.Proofs.Try.sortRegs_ren) { Go.Proofs.Try.sortRegs with }) (l.length : Int) w (by omega) (by omega)
    rwa [Int.toNat_natCast] at h
  have hps := pdq_sorts (Go.Proofs.ltOf baseCmp) swo_base l.toArray 0 l.toArray.size (Lib.bitLen l.toArray.size) true true (Nat.zero_le _) (Nat.le_refl _) (Or.inl rfl)
  simp only [List.size_toArray] at hp hps
  generalize pdq (Go.Proofs.ltOf baseCmp) l.toArray 0 l.length (Lib.bitLen l.length) true true = d at hp hps
  obtain ⟨⟨hsz, _, hperm⟩, hsort⟩ := hps
  have hsz' : d.size = l.length := by simpa using hsz
  have hfin : ∀ n os, Row (sortWorldK Reg.cells 3 w g 0 n d os) g cap d.toList ∧ w.grownBy (sortWorldK Reg.cells 3 w g 0 n d os) (some g) := fun n os => row_sorted h n d hsz' os
  have hperm' : d.toList.Perm l := by
    have e : d.extract 0 l.length = d := by rw [← hsz']; simp
    have e2 : (l.toArray.extract 0 l.length).toList = l := by simp
    rw [e, e2] at hperm
    exact hperm
  have hsort' : ∀ i j (h : i < j) (hj : j < d.toList.length), d.toList[i].base ≤ d.toList[j].base := by
    intro i j hij hj
    have hj' : j < d.size := by simpa using hj
    have := hsort i j (Nat.zero_le _) hij (by omega)
    rw [getElem!_pos d i (by omega), getElem!_pos d j hj'] at this
    simp only [Array.getElem_toList]
    unfold Go.Proofs.ltOf baseCmp cmpI at this
    by_cases hlt : d[j].base < d[i].base
    · simp [hlt] at this
    · omega
  have Hfin := Lib.hid hfin
  have Hperm := Lib.hid hperm'
  have Hsort := Lib.hid hsort'
  have wr : IntKind.u64.wrap (l.length : Int) = l.length := by simp [IntKind.wrap, IntKind.bits, IntKind.signed]; omega
  clear hfin hperm' hsort' hperm hsort hsz hsz' hcmp h hlim
  go_enter Try.func50, Try.ntmps50
  go_wp2_with (first | (go_at_call 57; refine hb.mono ?_; rintro e w' ⟨rfl, rfl⟩) | (go_at_call 56; refine hp.mono ?_; rintro e w' ⟨rfl, n, os, rfl⟩))
  go_end0
  exact ⟨d.toList, rfl, Hperm.out, Hsort.out, Hfin.out n os⟩

theorem sort_nil_c (w : World) : Calls Try.prog 50 #[.slice none 0 0, .func (.func 51) #[] #[]] w fun e w' => e = .returned (.tuple #[]) ∧ w = w' := by
  have hp := fun lim W => Go.Proofs.AnyF.pdqsortCmpFunc_none Go.Proofs.Try.sortRegs none 0 lim (.func (.func 51) #[] #[]) W
  change ∀ lim W, Calls Try.prog 56 _ _ _ at hp
  have hb : ∀ W, Calls Try.prog 57 #[.int .u64 0] W fun e w' => e = .returned (.int .i64 (Lib.bitLen 0 : Nat)) ∧ w' = W := fun W =>
    Go.Proofs.Any.bits_Len (Go.Proofs.SlLaysF0.n15.bits (P := Try.prog) (ρ := Go.Proofs.Try.sortRegs_ren) { Go.Proofs.Try.sortRegs with }) 0 W (by omega) (by omega)
  go_enter Try.func50, Try.ntmps50
  go_wp2_with (first | (go_at_call 57; refine (hb _).mono ?_; rintro e w' ⟨rfl, rfl⟩) | (go_at_call 56; refine (hp _ _).mono ?_; rintro e w' ⟨rfl, rfl⟩))
  go_end0
  exact ⟨rfl, rfl⟩
end Go.Proofs.Ytjgmdchlgabflaa
