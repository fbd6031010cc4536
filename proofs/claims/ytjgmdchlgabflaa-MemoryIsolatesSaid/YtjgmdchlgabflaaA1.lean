/- Regions in memory, and the contracts of size, Contains, near, end and slices.IndexFunc at regions. -/
import Derived.Test.YtjgmdchlgabflaaA0
namespace Go.Proofs.Ytjgmdchlgabflaa
open Go.ChangeShapes Go.WideShapes Go.ChangeAt Go.RowKit

def sizeB (n : Int) : Bool := decide (0 ≤ n) && decide (n ≤ 4096)

theorem size_c (n : Int) (w : World) : Calls Try.prog 33 #[.int .i64 n] w fun e w' => e = .returned (.bool (sizeB n)) ∧ w = w' := by
  by_cases h1 : 0 ≤ n
  · go_enter Try.func33, Try.ntmps33
    go_wp2
    go_ret
    exact ⟨by simp [sizeB, h1], rfl⟩
  · go_enter Try.func33, Try.ntmps33
    go_wp2
    go_ret
    exact ⟨by simp [sizeB]; omega, rfl⟩

structure Reg where
  part : Int
  base : Int
  size : Int
  deriving Inhabited
def Reg.val (r : Reg) : Value := .agg #[.int .i64 r.part, .int .i64 r.base, .int .i64 r.size]
def Reg.has (r : Reg) (a : Int) : Bool := decide (r.base ≤ a) && decide (a < wrap64 (r.base + r.size))

theorem contains_c (r : Reg) (a : Int) (w : World) :
    Calls Try.prog 32 #[.agg #[.int .i64 r.part, .int .i64 r.base, .int .i64 r.size], .int .i64 a] w fun e w' => e = .returned (.bool (r.has a)) ∧ Below w.heap.size w w' := by
  by_cases h1 : r.base ≤ a
  · go_enter Try.func32, Try.ntmps32
    go_wp2
    go_ret
    exact ⟨by simp [h1, Reg.has], (Below.refl _ _).alloc (Nat.le_refl _) _⟩
  · go_enter Try.func32, Try.ntmps32
    go_wp2
    go_ret
    exact ⟨by simp [Reg.has]; omega, (Below.refl _ _).alloc (Nat.le_refl _) _⟩

theorem end_c (r : Reg) (w : World) :
    Calls Try.prog 31 #[.agg #[.int .i64 r.part, .int .i64 r.base, .int .i64 r.size]] w fun e w' => e = .returned (.int .i64 (wrap64 (r.base + r.size))) ∧ Below w.heap.size w w' := by
  go_enter Try.func31, Try.ntmps31
  go_wp2
  go_ret
  exact ⟨rfl, (Below.refl _ _).alloc (Nat.le_refl _) _⟩

def RdReg (w : World) (B : Nat) (A : Option Addr) (l : List Reg) : Prop :=
  0 < l.length → ∃ b o, A = some ⟨b, o, none⟩ ∧ b < B ∧ ∀ i (h : i < l.length), w.cell? ⟨b, o + i * 3, none⟩ = some (.int .i64 l[i].part) ∧ w.cell? ⟨b, o + i * 3 + 1, none⟩ = some (.int .i64 l[i].base) ∧ w.cell? ⟨b, o + i * 3 + 2, none⟩ = some (.int .i64 l[i].size)
theorem RdReg.keep {w w' : World} {B : Nat} {A : Option Addr} {l : List Reg} (h : RdReg w B A l) (hb : Below B w w') : RdReg w' B A l := fun hn => by
  obtain ⟨b, o, rfl, hbB, hc⟩ := h hn
  exact ⟨b, o, rfl, hbB, fun i hi => ⟨(hb.cell (p := ⟨b, _, none⟩) hbB).trans (hc i hi).1, (hb.cell (p := ⟨b, _, none⟩) hbB).trans (hc i hi).2.1, (hb.cell (p := ⟨b, _, none⟩) hbB).trans (hc i hi).2.2⟩⟩
theorem RdReg.more {w : World} {B B' : Nat} {A : Option Addr} {l : List Reg} (h : RdReg w B A l) (hb : B ≤ B') : RdReg w B' A l := fun hn => by
  obtain ⟨b, o, rfl, hbB, hc⟩ := h hn
  exact ⟨b, o, rfl, by omega, hc⟩
theorem RdReg.below {w w' : World} {A : Option Addr} {l : List Reg} (h : RdReg w w.heap.size A l) (hb : Below w.heap.size w w') : RdReg w' w'.heap.size A l := (h.keep hb).more hb.size

def nearR (r : Reg) : Bool := decide (-1073741824 ≤ r.base ∧ r.base ≤ 1073741824 ∧ -1073741824 ≤ r.size ∧ r.size ≤ 1073741824)
theorem near_c (l : List Reg) (A : Option Addr) (c : Nat) (w : World) (h : RdReg w w.heap.size A l) (hl : l.length ≤ 4611686018427387904) :
    Calls Try.prog 15 #[.slice A l.length c] w fun e w' => e = .returned (.bool (l.all nearR)) ∧ w = w' := by
  go_enter Try.func15, Try.ntmps15
  go_wp2
  go_loop [3] (fun i => ∃ k : Nat, k ≤ l.length ∧ i = .int .i64 k ∧ Hid (∀ j (h : j < l.length), j < k → nearR l[j] = true)) (fun i => l.length - (intOf i).toNat)
  case atStart => exact ⟨0, Nat.zero_le _, rfl, fun j _ h => absurd h (by omega)⟩
  case round =>
    obtain ⟨k, hk, rfl, hall⟩ := hrel
    by_cases hlt : k < l.length
    · obtain ⟨b, o, rfl, hb, hc⟩ := h (by omega)
      obtain ⟨c0, c1, c2⟩ := hc k hlt
      clear hc
      have hno : nearR l[k] = false → l.all nearR = false := not_all hlt
      have hyes : nearR l[k] = true → ∀ j (h : j < l.length), j < k + 1 → nearR l[j] = true := fun e j hj hjk => by
        by_cases hjk' : j = k
        · subst hjk'; exact e
        · exact hall j hj (by omega)
      generalize hr : l[k] = r at c0 c1 c2 hno hyes
      have HR := Lib.hid hr
      clear hr
      have Hno := Lib.hid hno
      have Hyes := Lib.hid hyes
      clear hno hyes
      by_cases hn : -1073741824 ≤ r.base ∧ r.base ≤ 1073741824 ∧ -1073741824 ≤ r.size ∧ r.size ≤ 1073741824
      · obtain ⟨n1, n2, n3, n4⟩ := hn
        go_wp2
        go_round
        case rel => exact ⟨k + 1, by omega, by go_num, Hyes.out (by simp [nearR]; omega)⟩
        case measure => simp [intOf]; omega
      · go_wp2
        all_goals (go_ret; exact ⟨ret_bool (Hno.out (by simp [nearR]; omega)).symm, rfl⟩)
    · go_wp2
      go_ret
      exact ⟨ret_bool (all_of fun j hj => hall.out j hj (by omega)).symm, rfl⟩

/-- what is asked of a predicate on regions that is handed to the library. -/
def PredReg (g : Nat) (lb : Array Value) (p : Reg → Bool) (w : World) : Prop :=
  ∀ (W : World) (r : Reg), Below w.heap.size w W → Calls Try.prog g (#[.agg #[.int .i64 r.part, .int .i64 r.base, .int .i64 r.size]] ++ lb) W fun e w' => e = .returned (.bool (p r)) ∧ Below W.heap.size W w'

theorem indexReg_c (g : Nat) (lb : Array Value) (p : Reg → Bool) (eg : ∀ args w, (callFunc g args).run Try.prog w = .ok (.enter g args) w) (l : List Reg) (A : Option Addr) (c : Nat) (w : World)
    (hp : PredReg g lb p w) (h : RdReg w w.heap.size A l) (hl : l.length ≤ 4611686018427387904) :
    Calls Try.prog 45 #[.slice A l.length c, .func (.func g) #[] lb] w fun e w' => e = .returned (.int .i64 (idxI p l)) ∧ Below w.heap.size w w' := by
  go_enter Try.func45, Try.ntmps45
  go_wp2
  go_loopw [5, 8] (fun _ i wr => ∃ k : Nat, k ≤ l.length ∧ i = .int .i64 k ∧ Below w.heap.size w wr ∧ Hid (∀ j (h : j < l.length), j < k → p l[j] = false)) (fun _ i _ => l.length - (intOf i).toNat)
  case atStart => exact ⟨0, Nat.zero_le _, rfl, Below.refl _ _, fun j _ h => absurd h (by omega)⟩
  case round =>
    obtain ⟨k, hk, rfl, hB, hall⟩ := hrel
    by_cases hlt : k < l.length
    · obtain ⟨b, o, rfl, hb, hc⟩ := h.keep hB (by omega)
      obtain ⟨c0, c1, c2⟩ := hc k hlt
      have hcall := hp wr l[k] hB
      clear hc hp
      cases hq : p l[k] with
      | true =>
        have hfin := idxI_hit hlt hq hall.out
        have Hfin := Lib.hid hfin
        rw [hq] at hcall
        clear hfin hq
        have hs := hB.size
        generalize l[k] = r at c0 c1 c2 hcall
        go_wp2_with (go_at_fn g; refine hcall.mono ?_; rintro e w' ⟨rfl, hb'⟩)
        go_ret
        exact ⟨ret_int Hfin.out.symm, hB.trans (hb'.mono hs)⟩
      | false =>
        have hnext : ∀ j (h : j < l.length), j < k + 1 → p l[j] = false := fun j hj hjk => by
          by_cases hjk' : j = k
          · subst hjk'; exact hq
          · exact hall.out j hj (by omega)
        have Hnext := Lib.hid hnext
        rw [hq] at hcall
        clear hnext hq
        have hs := hB.size
        generalize l[k] = r at c0 c1 c2 hcall
        go_wp2_with (go_at_fn g; refine hcall.mono ?_; rintro e w' ⟨rfl, hb'⟩)
        go_roundw
        case rel => exact ⟨k + 1, by omega, by go_num, hB.trans (hb'.mono hs), Hnext⟩
        case measure => simp [intOf]; omega
    · go_wp2
      go_ret
      exact ⟨ret_int (idxI_miss fun j hj => hall.out j hj (by omega)).symm, hB⟩
end Go.Proofs.Ytjgmdchlgabflaa
