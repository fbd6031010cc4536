/- Partitions in memory, and the contracts of slices.ContainsFunc at partitions and of times. -/
import Derived.Test.YtlmbffnmjfbglabwG0
namespace Go.Proofs.Ytlmbffnmjfbglab
open Go.ChangeShapes Go.WideShapes Go.ChangeAt Go.RowKit

/-- a slice as a value. -/
structure SlV where
  a : Option Addr
  n : Nat
  c : Nat
  deriving Inhabited
structure Part where
  name : ByteArray
  period : Int
  length : Int
  mem : Int
  semas : SlV
  events : Int
  boards : Int
  bufs : SlV
  ports : SlV
  procs : SlV
  deriving Inhabited
def Part.cells (p : Part) : List Value := [.string p.name, .int .i64 p.period, .int .i64 p.length, .int .i64 p.mem, .slice p.semas.a p.semas.n p.semas.c, .int .i64 p.events, .int .i64 p.boards, .slice p.bufs.a p.bufs.n p.bufs.c, .slice p.ports.a p.ports.n p.ports.c, .slice p.procs.a p.procs.n p.procs.c]
abbrev Part.val (p : Part) : Value := .agg #[.string p.name, .int .i64 p.period, .int .i64 p.length, .int .i64 p.mem, .slice p.semas.a p.semas.n p.semas.c, .int .i64 p.events, .int .i64 p.boards, .slice p.bufs.a p.bufs.n p.bufs.c, .slice p.ports.a p.ports.n p.ports.c, .slice p.procs.a p.procs.n p.procs.c]
def RdPart (w : World) (B : Nat) (A : Option Addr) (l : List Part) : Prop :=
  0 < l.length → ∃ b o, A = some ⟨b, o, none⟩ ∧ b < B ∧ ∀ i (h : i < l.length) j v, l[i].cells[j]? = some v → w.cell? ⟨b, o + i * 10 + j, none⟩ = some v
theorem RdPart.keep {w w' : World} {B : Nat} {A : Option Addr} {l : List Part} (h : RdPart w B A l) (hb : Below B w w') : RdPart w' B A l := fun hn => by
  obtain ⟨b, o, rfl, hbB, hc⟩ := h hn
  exact ⟨b, o, rfl, hbB, fun i hi j v hv => (hb.cell (p := ⟨b, _, none⟩) hbB).trans (hc i hi j v hv)⟩
theorem RdPart.more {w : World} {B B' : Nat} {A : Option Addr} {l : List Part} (h : RdPart w B A l) (hb : B ≤ B') : RdPart w B' A l := fun hn => by
  obtain ⟨b, o, rfl, hbB, hc⟩ := h hn
  exact ⟨b, o, rfl, by omega, hc⟩
theorem RdPart.below {w w' : World} {A : Option Addr} {l : List Part} (h : RdPart w w.heap.size A l) (hb : Below w.heap.size w w') : RdPart w' w'.heap.size A l := (h.keep hb).more hb.size

def PredPart (g : Nat) (lb : Array Value) (p : Part → Bool) (w : World) : Prop :=
  ∀ (W : World) (r : Part), Below w.heap.size w W → Calls Try.prog g (#[r.val] ++ lb) W fun e w' => e = .returned (.bool (p r)) ∧ Below W.heap.size W w'

theorem indexPart_c (g : Nat) (lb : Array Value) (p : Part → Bool) (eg : ∀ args w, (callFunc g args).run Try.prog w = .ok (.enter g args) w) (l : List Part) (A : Option Addr) (c : Nat) (w : World)
    (hp : PredPart g lb p w) (h : RdPart w w.heap.size A l) (hl : l.length ≤ 9223372036854775807) :
    Calls Try.prog 88 #[.slice A l.length c, .func (.func g) #[] lb] w fun e w' => e = .returned (.int .i64 (idxI p l)) ∧ Below w.heap.size w w' := by
  go_enter Try.func88, Try.ntmps88
  go_wp2
  go_loopw [5, 8] (fun _ i wr => ∃ k : Nat, k ≤ l.length ∧ i = .int .i64 k ∧ Below w.heap.size w wr ∧ Hid (∀ j (h : j < l.length), j < k → p l[j] = false)) (fun _ i _ => l.length - (intOf i).toNat)
  case atStart => exact ⟨0, Nat.zero_le _, rfl, Below.refl _ _, fun j _ h => absurd h (by omega)⟩
  case round =>
    obtain ⟨k, hk, rfl, hB, hall⟩ := hrel
    by_cases hlt : k < l.length
    · obtain ⟨b, o, rfl, hb, hc⟩ := h.keep hB (by omega)
      have hcall := hp wr l[k] hB
      have hck := hc k hlt
      clear hc hp h
      have hs := hB.size
      have hfin : p l[k] = true → idxI p l = k := fun hq => idxI_hit hlt hq hall.out
      have hnext : p l[k] = false → ∀ j (h : j < l.length), j < k + 1 → p l[j] = false := fun hq => forall_succ (p := fun r => p r = false) hall.out hq
      have Hfin := Lib.hid hfin
      have Hnext := Lib.hid hnext
      clear hfin hnext hall
      generalize l[k] = r at hck hcall Hfin Hnext
      have c0 := hck 0 _ rfl
      have c1 := hck 1 _ rfl
      have c2 := hck 2 _ rfl
      have c3 := hck 3 _ rfl
      have c4 := hck 4 _ rfl
      have c5 := hck 5 _ rfl
      have c6 := hck 6 _ rfl
      have c7 := hck 7 _ rfl
      have c8 := hck 8 _ rfl
      have c9 := hck 9 _ rfl
      rw [Nat.add_zero] at c0
      clear hck
      cases hq : p r with
      | true =>
        have hfin := Lib.hid (Hfin.out hq)
        rw [hq] at hcall
        clear Hfin Hnext hq
        go_wp2_with (go_at_fn g; refine hcall.mono ?_; rintro e w' ⟨rfl, hb'⟩)
        go_ret
        exact ⟨ret_int hfin.out.symm, hB.trans (hb'.mono hs)⟩
      | false =>
        have hnext := Lib.hid (Hnext.out hq)
        rw [hq] at hcall
        clear Hfin Hnext hq
        go_wp2_with (go_at_fn g; refine hcall.mono ?_; rintro e w' ⟨rfl, hb'⟩)
        go_roundw
        case rel => exact ⟨k + 1, by omega, by go_num, hB.trans (hb'.mono hs), hnext⟩
        case measure => simp [intOf]; omega
    · go_wp2
      go_ret
      exact ⟨ret_int (idxI_miss fun j hj => hall.out j hj (by omega)).symm, hB⟩

theorem containsPart_c (g : Nat) (lb : Array Value) (p : Part → Bool) (eg : ∀ args w, (callFunc g args).run Try.prog w = .ok (.enter g args) w) (l : List Part) (A : Option Addr) (c : Nat) (w : World)
    (hp : PredPart g lb p w) (h : RdPart w w.heap.size A l) (hl : l.length ≤ 9223372036854775807) :
    Calls Try.prog 66 #[.slice A l.length c, .func (.func g) #[] lb] w fun e w' => e = .returned (.bool (l.any p)) ∧ Below w.heap.size w w' := by
  have hI := indexPart_c g lb p eg l A c w hp h hl
  rw [← idxI_ge]
  generalize idxI p l = q at hI ⊢
  clear h hp
  go_enter Try.func66, Try.ntmps66
  go_wp2_with fail
  refine hI.mono ?_
  rintro e w1 ⟨rfl, hb1⟩
  clear hI
  go_wp2
  go_ret
  exact ⟨rfl, hb1⟩

def timeBad (frame : Int) (p : Part) : Bool := decide (p.period < 1) || (decide (frame % p.period ≠ 0) || (decide (p.length < 1) || decide (p.period < p.length)))
theorem times1_c (frame : Int) (Bn : Nat) (cs : Array Value) (w : World) (h : Blk w Bn 24 cs) (hc : cs[2]? = some (.int .i64 frame)) (h1 : 1 ≤ frame) (h2 : frame ≤ 2000) : PredPart 67 #[.pointer (some ⟨Bn, 0, none⟩)] (timeBad frame) w := fun W r hb => by
  change Calls _ _ _ _ fun e w' => e = .returned (.bool (timeBad frame r)) ∧ Below W.heap.size W w'
  have hB : Below W.heap.size W (W.alloc (.cells r.cells.toArray 56)) := (Below.refl _ _).alloc (Nat.le_refl _) _
  have c2 : (W.alloc (.cells r.cells.toArray 56)).cell? ⟨Bn, 2, none⟩ = some (.int .i64 frame) := by
    rw [((h.below hb h.lt).alloc _).cell]; exact hc
  simp only [Part.cells] at hB c2
  clear hb h hc
  by_cases a1 : r.period < 1
  · have hv : timeBad frame r = true := by simp [timeBad, a1]
    rw [hv]; clear hv
    go_enter Try.func67, Try.ntmps67
    go_wp2
    go_ret
    exact ⟨rfl, hB⟩
  · have a1' : 1 ≤ r.period := by omega
    have p0 : r.period ≠ 0 := by omega
    have e0 : 0 ≤ frame % r.period := Int.emod_nonneg _ p0
    by_cases a2 : frame % r.period = 0
    · by_cases a3 : r.length < 1
      · have hv : timeBad frame r = true := by simp [timeBad, a3]
        rw [hv]; clear hv
        have b2 : (frame % r.period != 0) = false := by simp [a2]
        clear a2
        go_enter Try.func67, Try.ntmps67
        go_wp2
        go_ret
        exact ⟨rfl, hB⟩
      · by_cases a4 : r.period < r.length
        · have hv : timeBad frame r = true := by simp [timeBad, a4]
          rw [hv]; clear hv
          have b2 : (frame % r.period != 0) = false := by simp [a2]
          clear a2
          go_enter Try.func67, Try.ntmps67
          go_wp2
          go_ret
          exact ⟨rfl, hB⟩
        · have hv : timeBad frame r = false := by simp [timeBad, a1, a2, a3, a4]
          rw [hv]; clear hv
          have b2 : (frame % r.period != 0) = false := by simp [a2]
          clear a2
          go_enter Try.func67, Try.ntmps67
          go_wp2
          go_ret
          exact ⟨rfl, hB⟩
    · have hv : timeBad frame r = true := by simp [timeBad, a2]
      rw [hv]; clear hv
      have b2 : (frame % r.period != 0) = true := by simp [a2]
      clear a2
      go_enter Try.func67, Try.ntmps67
      go_wp2
      go_ret
      exact ⟨rfl, hB⟩

/-- the times of a module are valid. -/
def timesV (frame : Int) (l : List Part) : Bool := decide (1 ≤ frame) && (decide (frame ≤ 2000) && (decide (l.length ≤ 6) && !(l.any (timeBad frame))))

theorem times_c (name : ByteArray) (mem frame : Int) (l : List Part) (A : Option Addr) (c : Nat) (w : World) (h : RdPart w w.heap.size A l) (hl : l.length ≤ 9223372036854775807) :
    Calls Try.prog 43 #[.agg #[.string name, .int .i64 mem, .int .i64 frame, .slice A l.length c]] w fun e w' => e = .returned (.bool (timesV frame l)) ∧ Below w.heap.size w w' := by
  have hB : Below w.heap.size w (w.alloc (.cells #[.string name, .int .i64 mem, .int .i64 frame, .slice A l.length c] 24)) := (Below.refl _ w).alloc (Nat.le_refl _) _
  by_cases h1 : 1 ≤ frame
  · by_cases h2 : frame ≤ 2000
    · by_cases h3 : l.length ≤ 6
      · have hcon := containsPart_c 67 #[.pointer (some ⟨w.heap.size, 0, none⟩)] (timeBad frame) (enters_of Try.func67 (by kernel_rfl) rfl) l A c _ (times1_c frame w.heap.size _ _ (Blk.new w 24 #[.string name, .int .i64 mem, .int .i64 frame, .slice A l.length c]) rfl h1 h2) (h.below hB) hl
        have hv : timesV frame l = !(l.any (timeBad frame)) := by simp [timesV, h1, h2, h3]
        rw [hv]
        generalize l.any (timeBad frame) = q at hcon ⊢
        clear h hv
        go_enter Try.func43, Try.ntmps43
        go_wp2_with fail
        refine hcon.mono ?_
        rintro e w' ⟨rfl, hb'⟩
        have hB' := hB.trans (hb'.mono hB.size)
        clear hcon hB hb'
        go_wp2
        go_ret
        exact ⟨rfl, hB'⟩
      · have hv : timesV frame l = false := by simp [timesV, h3]
        rw [hv]; clear hv h
        go_enter Try.func43, Try.ntmps43
        go_wp2
        go_ret
        exact ⟨rfl, hB⟩
    · have hv : timesV frame l = false := by simp [timesV, h2]
      rw [hv]; clear hv h
      go_enter Try.func43, Try.ntmps43
      go_wp2
      go_ret
      exact ⟨rfl, hB⟩
  · have hv : timesV frame l = false := by simp [timesV, h1]
    rw [hv]; clear hv h
    go_enter Try.func43, Try.ntmps43
    go_wp2
    go_ret
    exact ⟨rfl, hB⟩
end Go.Proofs.Ytlmbffnmjfbglab
