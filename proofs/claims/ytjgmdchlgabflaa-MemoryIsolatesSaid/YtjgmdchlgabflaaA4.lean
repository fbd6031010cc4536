/- Partitions in memory, and the contracts of slices.ContainsFunc at partitions and of Layout. -/
import Derived.Test.YtjgmdchlgabflaaA3
namespace Go.Proofs.Ytjgmdchlgabflaa
open Go.ChangeShapes Go.WideShapes Go.ChangeAt Go.RowKit

/-- a slice as a value. -/
structure SlV where
  a : Option Addr
  n : Nat
  c : Nat
  deriving Inhabited
structure Part where
  name : ByteArray
  period : Int
  length : Int
  mem : Int
  semas : SlV
  events : Int
  boards : Int
  bufs : SlV
  ports : SlV
  procs : SlV
  deriving Inhabited
def Part.cells (p : Part) : List Value := [.string p.name, .int .i64 p.period, .int .i64 p.length, .int .i64 p.mem, .slice p.semas.a p.semas.n p.semas.c, .int .i64 p.events, .int .i64 p.boards, .slice p.bufs.a p.bufs.n p.bufs.c, .slice p.ports.a p.ports.n p.ports.c, .slice p.procs.a p.procs.n p.procs.c]
abbrev Part.val (p : Part) : Value := .agg #[.string p.name, .int .i64 p.period, .int .i64 p.length, .int .i64 p.mem, .slice p.semas.a p.semas.n p.semas.c, .int .i64 p.events, .int .i64 p.boards, .slice p.bufs.a p.bufs.n p.bufs.c, .slice p.ports.a p.ports.n p.ports.c, .slice p.procs.a p.procs.n p.procs.c]
def RdPart (w : World) (B : Nat) (A : Option Addr) (l : List Part) : Prop :=
  0 < l.length → ∃ b o, A = some ⟨b, o, none⟩ ∧ b < B ∧ ∀ i (h : i < l.length) j v, l[i].cells[j]? = some v → w.cell? ⟨b, o + i * 10 + j, none⟩ = some v
theorem RdPart.keep {w w' : World} {B : Nat} {A : Option Addr} {l : List Part} (h : RdPart w B A l) (hb : Below B w w') : RdPart w' B A l := fun hn => by
  obtain ⟨b, o, rfl, hbB, hc⟩ := h hn
  exact ⟨b, o, rfl, hbB, fun i hi j v hv => (hb.cell (p := ⟨b, _, none⟩) hbB).trans (hc i hi j v hv)⟩
theorem RdPart.more {w : World} {B B' : Nat} {A : Option Addr} {l : List Part} (h : RdPart w B A l) (hb : B ≤ B') : RdPart w B' A l := fun hn => by
  obtain ⟨b, o, rfl, hbB, hc⟩ := h hn
  exact ⟨b, o, rfl, by omega, hc⟩
theorem RdPart.below {w w' : World} {A : Option Addr} {l : List Part} (h : RdPart w w.heap.size A l) (hb : Below w.heap.size w w') : RdPart w' w'.heap.size A l := (h.keep hb).more hb.size

def PredPart (g : Nat) (lb : Array Value) (p : Part → Bool) (w : World) : Prop :=
  ∀ (W : World) (r : Part), Below w.heap.size w W → Calls Try.prog g (#[r.val] ++ lb) W fun e w' => e = .returned (.bool (p r)) ∧ Below W.heap.size W w'

theorem indexPart_c (g : Nat) (lb : Array Value) (p : Part → Bool) (eg : ∀ args w, (callFunc g args).run Try.prog w = .ok (.enter g args) w) (l : List Part) (A : Option Addr) (c : Nat) (w : World)
    (hp : PredPart g lb p w) (h : RdPart w w.heap.size A l) (hl : l.length ≤ 4611686018427387904) :
    Calls Try.prog 46 #[.slice A l.length c, .func (.func g) #[] lb] w fun e w' => e = .returned (.int .i64 (idxI p l)) ∧ Below w.heap.size w w' := by
  go_enter Try.func46, Try.ntmps46
  go_wp2
  go_loopw [5, 8] (fun _ i wr => ∃ k : Nat, k ≤ l.length ∧ i = .int .i64 k ∧ Below w.heap.size w wr ∧ Hid (∀ j (h : j < l.length), j < k → p l[j] = false)) (fun _ i _ => l.length - (intOf i).toNat)
  case atStart => exact ⟨0, Nat.zero_le _, rfl, Below.refl _ _, fun j _ h => absurd h (by omega)⟩
  case round =>
    obtain ⟨k, hk, rfl, hB, hall⟩ := hrel
    by_cases hlt : k < l.length
    · obtain ⟨b, o, rfl, hb, hc⟩ := h.keep hB (by omega)
      have hcall := hp wr l[k] hB
      have hck := hc k hlt
      clear hc hp h
      have hs := hB.size
      have hfin : p l[k] = true → idxI p l = k := fun hq => idxI_hit hlt hq hall.out
      have hnext : p l[k] = false → ∀ j (h : j < l.length), j < k + 1 → p l[j] = false := fun hq => forall_succ (p := fun r => p r = false) hall.out hq
      have Hfin := Lib.hid hfin
      have Hnext := Lib.hid hnext
      clear hfin hnext hall
      generalize l[k] = r at hck hcall Hfin Hnext
      have c0 := hck 0 _ rfl
      have c1 := hck 1 _ rfl
      have c2 := hck 2 _ rfl
      have c3 := hck 3 _ rfl
      have c4 := hck 4 _ rfl
      have c5 := hck 5 _ rfl
      have c6 := hck 6 _ rfl
      have c7 := hck 7 _ rfl
      have c8 := hck 8 _ rfl
      have c9 := hck 9 _ rfl
      rw [Nat.add_zero] at c0
      clear hck
      cases hq : p r with
      | true =>
        have hfin := Lib.hid (Hfin.out hq)
        rw [hq] at hcall
        clear Hfin Hnext hq
        go_wp2_with (go_at_fn g; refine hcall.mono ?_; rintro e w' ⟨rfl, hb'⟩)
        go_ret
        exact ⟨ret_int hfin.out.symm, hB.trans (hb'.mono hs)⟩
      | false =>
        have hnext := Lib.hid (Hnext.out hq)
        rw [hq] at hcall
        clear Hfin Hnext hq
        go_wp2_with (go_at_fn g; refine hcall.mono ?_; rintro e w' ⟨rfl, hb'⟩)
        go_roundw
        case rel => exact ⟨k + 1, by omega, by go_num, hB.trans (hb'.mono hs), hnext⟩
        case measure => simp [intOf]; omega
    · go_wp2
      go_ret
      exact ⟨ret_int (idxI_miss fun j hj => hall.out j hj (by omega)).symm, hB⟩

theorem idxI_ge {α : Type} (p : α → Bool) (l : List α) : decide (0 ≤ idxI p l) = l.any p := by
  rcases find_cases p l with ⟨k, hk, hi, _, hp⟩ | ⟨hi, hf⟩
  · rw [hi]
    have : l.any p = true := List.any_eq_true.2 ⟨_, List.getElem_mem hk, hp⟩
    rw [this]; simp
  · rw [hi]
    rw [List.find?_eq_none] at hf
    have : l.any p = false := by rw [List.any_eq_false]; exact fun x hx => by simpa using hf x hx
    rw [this]; simp

theorem containsPart_c (g : Nat) (lb : Array Value) (p : Part → Bool) (eg : ∀ args w, (callFunc g args).run Try.prog w = .ok (.enter g args) w) (l : List Part) (A : Option Addr) (c : Nat) (w : World)
    (hp : PredPart g lb p w) (h : RdPart w w.heap.size A l) (hl : l.length ≤ 4611686018427387904) :
    Calls Try.prog 34 #[.slice A l.length c, .func (.func g) #[] lb] w fun e w' => e = .returned (.bool (l.any p)) ∧ Below w.heap.size w w' := by
  have hI := indexPart_c g lb p eg l A c w hp h hl
  rw [← idxI_ge]
  generalize idxI p l = q at hI ⊢
  clear h hp
  go_enter Try.func34, Try.ntmps34
  go_wp2_with fail
  refine hI.mono ?_
  rintro e w1 ⟨rfl, hb1⟩
  clear hI
  go_wp2
  go_ret
  exact ⟨rfl, hb1⟩

theorem layout1_c (w : World) : PredPart 35 #[] (fun p => !sizeB p.mem) w := fun W r hb => by
  have hI := fun W => size_c r.mem W
  clear hb
  go_enter Try.func35, Try.ntmps35
  go_wp2_with (go_at_call 33; refine (hI _).mono ?_; rintro e w' ⟨rfl, rfl⟩)
  go_ret
  exact ⟨rfl, (Below.refl _ _).alloc (Nat.le_refl _) _⟩
end Go.Proofs.Ytjgmdchlgabflaa
