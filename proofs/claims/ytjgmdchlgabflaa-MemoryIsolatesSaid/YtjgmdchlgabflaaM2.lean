/- A Memory's methods Clear, Bytes; Pick. -/
import Derived.Test.YtjgmdchlgabflaaM1
namespace Go.Proofs.Ytjgmdchlgabflaa
open Go.ChangeShapes Go.WideShapes Go.ChangeAt Go.RowKit

theorem info5 : (Try.prog.info? 5).map (fun i => (i.zero, i.size, i.bytes)) = some (some (.int .u8 0), 1, 1) := by kernel_rfl
theorem size5 : (Try.prog.info? 5).map (·.size) = some 1 := by kernel_rfl

theorem zero_one (z : Value) (n : Nat) : (Builtin.zeroCells #[z] n).toList = List.replicate n z := by
  rw [List.eq_replicate_iff]
  refine ⟨by simp [Builtin.zeroCells], fun b hb => ?_⟩
  simp only [Builtin.zeroCells, Array.toList_map, List.mem_map] at hb
  obtain ⟨k, _, rfl⟩ := hb
  simp [Nat.mod_one]
theorem run_clear_bytes {w : World} {g n : Nat} {f : Nat → Value} (h : Cells w g 5 n f) (ty o sz c : Nat) (hin : o + sz ≤ n) :
    (Builtin.clear_ #[46] ty #[.slice (some ⟨g, o, none⟩) sz c]).run Try.prog w = .ok (.tuple #[]) (w.setCells g o (List.replicate sz (.int .u8 0))) := by
  have hst := run_storeCells_cells (P := Try.prog) g o (List.replicate sz (.int .u8 0)) 0 w
    (fun j hj => h.isSome _ (by simp at hj; omega)) (fun j _ => h.frozen _) (by
      intro v hv
      rw [List.mem_replicate] at hv
      rw [hv.2]; rfl)
  simp only [Nat.add_zero] at hst
  have hz := Try.zeroValue5
  cases sz with
  | zero => simp [Builtin.clear_, run_underlying Try.underlying46, World.setCells]
  | succ m => simp [Builtin.clear_, run_underlying Try.underlying46, hz, Value.cells, hst, zero_one]

section
variable {w : World} {m gb cr n : Nat} {Ar : Option Addr} {rs : List Reg} {f : Nat → Int} {k bs sz : Nat}
set_option maxRecDepth 100000 in
theorem clear_m (hM : MemAt w m gb Ar cr rs n f) (hL : Laid rs n) (hk : k < rs.length) (hbs : rs[k].base = bs) (hsz : rs[k].size = sz) :
    Calls Try.prog 19 #[.pointer (some ⟨m, 0, none⟩), .int .i64 k] w fun e w' => e = .returned (.int .i64 0) ∧ ∃ w1, Below w.heap.size w w1 ∧ w' = w1.setCells gb (offB bs sz) (List.replicate sz (.int .u8 0)) := by
  have hc := bytes_c hM hL hk bs sz hbs hsz
  have hr := (hL.reg k hk).2.2.2.2.2
  have hin : offB bs sz + sz ≤ n := by unfold offB; split <;> omega
  have hby := hM.bytes
  have hlt := hM.bytes.lt
  clear hM hL hbs hsz hr
  generalize offB bs sz = ob at hc hin
  go_enter Try.func19, Try.ntmps19
  go_wp2_with fail
  refine hc.mono ?_
  clear hc
  rintro e w1 ⟨rfl, hb1⟩
  have hb := hby.below hb1 hlt
  have hcl := fun ty => run_clear_bytes hb ty ob sz sz hin
  clear hb hby hin
  go_wp2
  go_ret
  exact ⟨rfl, w1, hb1, rfl⟩

def BytesPost (w : World) (n : Nat) (f : Nat → Int) (e : Ending) (w' : World) : Prop := ∃ g, e = .returned (.slice (some ⟨g, 0, none⟩) n n) ∧ w.heap.size ≤ g ∧ Cells w' g 5 n (fun i => .int .u8 (f i)) ∧ Below w.heap.size w w'
set_option maxRecDepth 100000 in
theorem Bytes_c (hM : MemAt w m gb Ar cr rs n f) (hn : n ≤ 4096) : Calls Try.prog 20 #[.pointer (some ⟨m, 0, none⟩)] w (BytesPost w n f) := by
  obtain ⟨i0, hi0, hz0, hz1, hz2⟩ := info_parts info5
  have hmk : (Instr.makeSlice 46 (.int .i64 (n : Int)) (.int .i64 (n : Int))).run Try.prog w = .ok (.slice (some ⟨w.heap.size, 0, none⟩) n n) (w.alloc (.cells (madeCells #[.int .u8 0] n) 5)) := by
    have e := run_make_rowN (P := Try.prog) 46 5 i0 _ Try.underlying46 hi0 hz0 .i64 .i64 n n (by omega) (by rw [hz2]; omega) (by omega) w
    rw [hz1] at e
    simpa [Value.cells] using e
  have hC := Cells.made w 5 n (.int .u8 0)
  have hBa : Below w.heap.size w (w.alloc (.cells (madeCells #[.int .u8 0] n) 5)) := (Below.refl _ _).alloc (Nat.le_refl _) _
  have q1 := hM.obj.cell 1
  have q2 := hM.obj.cell 2
  simp at q1 q2
  have hmlt := hM.obj.lt
  have hby := hM.bytes.below hBa hM.bytes.lt
  have hl : ((List.range n).map fun i => Value.int .u8 (f i)).length = n := by simp
  have hg : ∀ i, i < n → ((List.range n).map fun i => Value.int .u8 (f i))[i]? = some (.int .u8 (f i)) := fun i hi => by simp [hi]
  have h1 : ∀ v ∈ ((List.range n).map fun i => Value.int .u8 (f i)), v.oneCell' = true := fun v hv => by
    obtain ⟨i, _, rfl⟩ := List.mem_map.1 hv; rfl
  generalize ((List.range n).map fun i => Value.int .u8 (f i)) = cs at hl hg h1
  generalize (madeCells #[Value.int .u8 0] n) = zc at *
  have hcp := fun ty => run_copy_cells (P := Try.prog) (w.alloc (.cells zc 5)) 46 46 ty 5 w.heap.size 0 n n ⟨gb, 0, none⟩ n n cs Try.underlying46 size5 (by rw [hl]; simp) (fun j v hj => by
      have hjn : j < n := by rw [← hl]; exact (List.getElem?_eq_some_iff.1 hj).1
      rw [hg j hjn] at hj
      have := hby.cell j hjn
      have ea : (⟨gb, 0, none⟩ : Addr).add j = ⟨gb, j, none⟩ := by unfold Addr.add; split <;> simp_all
      rw [← hj, ea]; exact this) (fun j hj => by rw [Nat.zero_add]; exact hC.isSome j (by omega)) (fun j _ => by rw [Nat.zero_add]; exact hC.frozen j) h1
  rw [hl] at hcp
  have hf := (hC.setCells cs 0 (by omega)).congr (f' := fun i => .int .u8 (f i)) fun i hi => by
    rw [if_pos (by omega), Nat.sub_zero, hg i hi]; rfl
  have hBf : Below w.heap.size w ((w.alloc (.cells zc 5)).setCells w.heap.size 0 cs) := Lib.below_setCells _ (Nat.le_refl _) cs 0 hBa
  have g1 := (hBa.cell (p := ⟨m, 1, none⟩) hmlt).trans q1
  clear hM hC hby hg h1 hBa hi0 hz0 hz1 hz2 hl
  go_enter Try.func20, Try.ntmps20
  go_wp2
  go_ret
  exact ⟨_, rfl, Nat.le_refl _, hf, hBf⟩
end

set_option maxRecDepth 100000 in
theorem Pick_c (x n : Int) (w : World) (hx : IntOk x) (h1 : 1 ≤ n) (h2 : n ≤ 1000000) : Calls Try.prog 23 #[.int .i64 x, .int .i64 n] w fun e w' => e = .returned (.int .i64 (x % n)) ∧ w = w' := by
  have hx1 : -9223372036854775808 ≤ x ∧ x ≤ 9223372036854775807 := hx
  have y0 : 0 ≤ x % n := Int.emod_nonneg _ (by omega)
  have y1 : x % n < n := Int.emod_lt_of_pos _ (by omega)
  have hy : x.tmod n = x % n ∨ (x.tmod n = x % n - n ∧ x.tmod n < 0) := by
    by_cases h : 0 ≤ x ∨ n ∣ x
    · left; rw [Int.tmod_eq_emod, if_pos h]; omega
    · right; rw [Int.tmod_eq_emod, if_neg h]; omega
  generalize x % n = y at *
  have hn0 : ¬ n = 0 := by omega
  rcases hy with hy | ⟨hy, hy2⟩
  · go_enter Try.func23, Try.ntmps23
    go_wp2
    go_ret
    exact ⟨rfl, rfl⟩
  · go_enter Try.func23, Try.ntmps23
    go_wp2
    go_ret
    exact ⟨rfl, rfl⟩
end Go.Proofs.Ytjgmdchlgabflaa
