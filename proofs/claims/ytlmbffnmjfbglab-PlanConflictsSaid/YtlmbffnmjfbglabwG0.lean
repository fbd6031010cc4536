/- Rows of three integers in memory: windows and slots; the contracts of slices.IndexFunc and slices.ContainsFunc at them. -/
import Derived.Test.YtlmbffnmjfbglabwW2
import Derived.Test.YtlmbffnmjfbglabwB1
namespace Go.Proofs.Ytlmbffnmjfbglab
open Go.ChangeShapes Go.WideShapes Go.ChangeAt Go.RowKit

structure Win where
  part : Int
  start : Int
  len : Int
deriving DecidableEq, Inhabited
abbrev Tri := Int × Int × Int
def Slot.tri (s : Slot) : Tri := (s.off, s.per, s.len)
def Win.tri (s : Win) : Tri := (s.part, s.start, s.len)
instance : Inhabited Slot := ⟨⟨0, 0, 0⟩⟩

section
variable {α : Type} {f : α → Tri}
def RdG (f : α → Tri) (w : World) (B : Nat) (A : Option Addr) (l : List α) : Prop :=
  0 < l.length → ∃ b o, A = some ⟨b, o, none⟩ ∧ b < B ∧ ∀ i (h : i < l.length), w.cell? ⟨b, o + i * 3, none⟩ = some (.int .i64 (f l[i]).1) ∧ w.cell? ⟨b, o + i * 3 + 1, none⟩ = some (.int .i64 (f l[i]).2.1) ∧ w.cell? ⟨b, o + i * 3 + 2, none⟩ = some (.int .i64 (f l[i]).2.2)
theorem RdG.nil {w : World} {B : Nat} {A : Option Addr} : RdG f w B A [] := fun h => absurd h (by simp)
theorem RdG.keep {w w' : World} {B : Nat} {A : Option Addr} {l : List α} (h : RdG f w B A l) (hb : Below B w w') : RdG f w' B A l := fun hn => by
  obtain ⟨b, o, rfl, hbB, hc⟩ := h hn
  exact ⟨b, o, rfl, hbB, fun i hi => ⟨(hb.cell (p := ⟨b, _, none⟩) hbB).trans (hc i hi).1, (hb.cell (p := ⟨b, _, none⟩) hbB).trans (hc i hi).2.1, (hb.cell (p := ⟨b, _, none⟩) hbB).trans (hc i hi).2.2⟩⟩
theorem RdG.more {w : World} {B B' : Nat} {A : Option Addr} {l : List α} (h : RdG f w B A l) (hb : B ≤ B') : RdG f w B' A l := fun hn => by
  obtain ⟨b, o, rfl, hbB, hc⟩ := h hn
  exact ⟨b, o, rfl, by omega, hc⟩
theorem RdG.below {w w' : World} {A : Option Addr} {l : List α} (h : RdG f w w.heap.size A l) (hb : Below w.heap.size w w') : RdG f w' w'.heap.size A l := (h.keep hb).more hb.size
def cellsG (f : α → Tri) (x : α) : List Value := [.int .i64 (f x).1, .int .i64 (f x).2.1, .int .i64 (f x).2.2]
theorem cellsG_length (l : List α) : (l.flatMap (cellsG f)).length = l.length * 3 := by
  induction l with
  | nil => rfl
  | cons r l ih => simp [cellsG, ih]; omega
theorem cellsG_get : ∀ (l : List α) (i : Nat) (h : i < l.length), (l.flatMap (cellsG f))[i * 3]? = some (.int .i64 (f l[i]).1) ∧ (l.flatMap (cellsG f))[i * 3 + 1]? = some (.int .i64 (f l[i]).2.1) ∧ (l.flatMap (cellsG f))[i * 3 + 2]? = some (.int .i64 (f l[i]).2.2)
  | r :: l, 0, _ => ⟨rfl, rfl, rfl⟩
  | r :: l, i + 1, h => by
    have ih := cellsG_get l i (by simpa using h)
    have e : ∀ j, (List.flatMap (cellsG f) (r :: l))[j + 3]? = (List.flatMap (cellsG f) l)[j]? := fun j => by simp [cellsG]
    rw [show (i + 1) * 3 = i * 3 + 3 from by omega, show i * 3 + 3 + 1 = i * 3 + 1 + 3 from by omega, show i * 3 + 3 + 2 = i * 3 + 2 + 3 from by omega, e, e, e]
    simpa using ih
theorem RdG.of_own {w : World} {base : Nat} {t : TypeId} {v : Value} {n : Nat} {l : List α} (hn : n = l.length) (h : w.ownsRow base t 3 v n (l.flatMap (cellsG f))) : ∃ A c, v = .slice A n c ∧ RdG f w w.heap.size A l := by
  subst hn
  rcases h.2 with ⟨rfl, h0⟩ | ⟨g, cap, cur, rfl, _, hh, _⟩
  · exact ⟨none, 0, by rw [h0], fun h => by omega⟩
  · refine ⟨_, cap, rfl, fun _ => ⟨g, 0, rfl, Blk.lt (t := t) hh, fun i hi => ?_⟩⟩
    have hc := h.cells (g := g) rfl
    obtain ⟨q0, q1, q2⟩ := cellsG_get (f := f) l i hi
    have e : ∀ j, (⟨g, 0, none⟩ : Addr).add j = ⟨g, 0 + j, none⟩ := fun j => by unfold Addr.add; split <;> simp_all
    have a0 := hc _ _ q0
    have a1 := hc _ _ q1
    have a2 := hc _ _ q2
    rw [e] at a0 a1 a2
    exact ⟨a0, a1, a2⟩
end
theorem idxI_ge {α : Type} (p : α → Bool) (l : List α) : decide (0 ≤ idxI p l) = l.any p := by
  rcases find_cases p l with ⟨k, hk, hi, _, hp⟩ | ⟨hi, hf⟩
  · rw [hi]
    have : l.any p = true := List.any_eq_true.2 ⟨_, List.getElem_mem hk, hp⟩
    rw [this]; simp
  · rw [hi]
    rw [List.find?_eq_none] at hf
    have : l.any p = false := by rw [List.any_eq_false]; exact fun x hx => by simpa using hf x hx
    rw [this]; simp

/-- what is asked of a predicate that is handed to the library. -/
def PredWin (g : Nat) (lb : Array Value) (p : Win → Bool) (w : World) : Prop :=
  ∀ (W : World) (r : Win), Below w.heap.size w W → Calls Try.prog g (#[.agg #[.int .i64 r.part, .int .i64 r.start, .int .i64 r.len]] ++ lb) W fun e w' => e = .returned (.bool (p r)) ∧ Below W.heap.size W w'

/-- what is asked of a predicate that is handed to the library. -/
def PredSlot (g : Nat) (lb : Array Value) (p : Slot → Bool) (w : World) : Prop :=
  ∀ (W : World) (r : Slot), Below w.heap.size w W → Calls Try.prog g (#[.agg #[.int .i64 r.off, .int .i64 r.per, .int .i64 r.len]] ++ lb) W fun e w' => e = .returned (.bool (p r)) ∧ Below W.heap.size W w'

theorem indexSlot_c (g : Nat) (lb : Array Value) (p : Slot → Bool) (eg : ∀ args w, (callFunc g args).run Try.prog w = .ok (.enter g args) w) (l : List Slot) (A : Option Addr) (c : Nat) (w : World)
    (hp : PredSlot g lb p w) (h : RdG Slot.tri w w.heap.size A l) (hl : l.length ≤ 9223372036854775807) :
    Calls Try.prog 68 #[.slice A l.length c, .func (.func g) #[] lb] w fun e w' => e = .returned (.int .i64 (idxI p l)) ∧ Below w.heap.size w w' := by
  go_enter Try.func68, Try.ntmps68
  go_wp2
  go_loopw [5, 8] (fun _ i wr => ∃ k : Nat, k ≤ l.length ∧ i = .int .i64 k ∧ Below w.heap.size w wr ∧ Hid (∀ j (h : j < l.length), j < k → p l[j] = false)) (fun _ i _ => l.length - (intOf i).toNat)
  case atStart => exact ⟨0, Nat.zero_le _, rfl, Below.refl _ _, fun j _ h => absurd h (by omega)⟩
  case round =>
    obtain ⟨k, hk, rfl, hB, hall⟩ := hrel
    by_cases hlt : k < l.length
    · obtain ⟨b, o, rfl, hb, hc⟩ := h.keep hB (by omega)
      obtain ⟨c0, c1, c2⟩ := hc k hlt
      change _ = some (Value.int .i64 l[k].off) at c0
      change _ = some (Value.int .i64 l[k].per) at c1
      change _ = some (Value.int .i64 l[k].len) at c2
      have hcall := hp wr l[k] hB
      clear hc hp h
      have hs := hB.size
      cases hq : p l[k] with
      | true =>
        have hfin := idxI_hit hlt hq hall.out
        have Hfin := Lib.hid hfin
        rw [hq] at hcall
        clear hfin hq hall
        generalize l[k] = r at c0 c1 c2 hcall
        go_wp2_with (go_at_fn g; refine hcall.mono ?_; rintro e w' ⟨rfl, hb'⟩)
        go_ret
        exact ⟨ret_int Hfin.out.symm, hB.trans (hb'.mono hs)⟩
      | false =>
        have hnext : ∀ j (h : j < l.length), j < k + 1 → p l[j] = false := forall_succ (p := fun r => p r = false) hall.out hq
        have Hnext := Lib.hid hnext
        rw [hq] at hcall
        clear hnext hq hall
        generalize l[k] = r at c0 c1 c2 hcall
        go_wp2_with (go_at_fn g; refine hcall.mono ?_; rintro e w' ⟨rfl, hb'⟩)
        go_roundw
        case rel => exact ⟨k + 1, by omega, by go_num, hB.trans (hb'.mono hs), Hnext⟩
        case measure => simp [intOf]; omega
    · go_wp2
      go_ret
      exact ⟨ret_int (idxI_miss fun j hj => hall.out j hj (by omega)).symm, hB⟩

theorem containsSlot_c (g : Nat) (lb : Array Value) (p : Slot → Bool) (eg : ∀ args w, (callFunc g args).run Try.prog w = .ok (.enter g args) w) (l : List Slot) (A : Option Addr) (c : Nat) (w : World)
    (hp : PredSlot g lb p w) (h : RdG Slot.tri w w.heap.size A l) (hl : l.length ≤ 9223372036854775807) :
    Calls Try.prog 44 #[.slice A l.length c, .func (.func g) #[] lb] w fun e w' => e = .returned (.bool (l.any p)) ∧ Below w.heap.size w w' := by
  have hI := indexSlot_c g lb p eg l A c w hp h hl
  rw [← idxI_ge]
  generalize idxI p l = q at hI ⊢
  clear h hp
  go_enter Try.func44, Try.ntmps44
  go_wp2_with fail
  refine hI.mono ?_
  rintro e w1 ⟨rfl, hb1⟩
  clear hI
  go_wp2
  go_ret
  exact ⟨rfl, hb1⟩

theorem slots1_c (w : World) : PredSlot 45 #[] (fun s => !validS s) w := fun W r hb => by
  change Calls _ _ _ _ fun e w' => e = .returned (.bool (!validS r)) ∧ Below W.heap.size W w'
  have hI := fun W => valid_c r W
  have hB : Below W.heap.size W (W.alloc (.cells #[.int .i64 r.off, .int .i64 r.per, .int .i64 r.len] 46)) := (Below.refl _ _).alloc (Nat.le_refl _) _
  clear hb
  obtain ⟨o, p, l⟩ := r
  generalize validS ⟨o, p, l⟩ = q at hI ⊢
  simp only at *
  go_enter Try.func45, Try.ntmps45
  go_wp2_with fail
  refine (hI _).mono ?_
  rintro e w' ⟨rfl, hb'⟩
  have hB' := hB.trans (hb'.mono hB.size)
  clear hI hB hb'
  go_wp2
  go_ret
  exact ⟨rfl, hB'⟩
end Go.Proofs.Ytlmbffnmjfbglab
