/- A Memory and its methods. -/
import Derived.Test.YtjgmdchlgabflaaP0
import Derived.Test.YtjgmdchlgabflaaB1
import Derived.Laws.IdiomCopy
namespace Go.Proofs.Ytjgmdchlgabflaa
open Go.ChangeShapes Go.WideShapes Go.ChangeAt Go.RowKit

theorem Cells.setCells {g n : Nat} {t : TypeId} : ∀ (vs : List Value) (o : Nat) {w : World} {f : Nat → Value}, Cells w g t n f → o + vs.length ≤ n → Cells (w.setCells g o vs) g t n (fun i => if o ≤ i ∧ i < o + vs.length then vs[i - o]?.getD (.int .i64 0) else f i)
  | [], o, w, f, h, _ => h.congr fun i _ => by rw [if_neg]; simp only [List.length_nil]; omega
  | v :: vs, o, w, f, h, ho => by
    have ih := Cells.setCells vs (o + 1) (h.set o v) (by simp at ho; omega)
    refine Cells.congr (show Cells (w.setCells g o (v :: vs)) g t n _ from ih) fun i _ => ?_
    simp only [List.length_cons]
    by_cases e : i = o
    · subst e; rw [if_neg (by omega), if_pos rfl, if_pos (by omega)]; simp
    · by_cases e2 : o + 1 ≤ i ∧ i < o + 1 + vs.length
      · rw [if_pos e2, if_pos (by omega)]
        rw [show i - o = (i - (o + 1)) + 1 by omega, List.getElem?_cons_succ]
      · rw [if_neg e2, if_neg e, if_neg (by omega)]

/-- a memory: the object m, its bytes in block gb, its regions. -/
structure MemAt (w : World) (m gb : Nat) (Ar : Option Addr) (cr : Nat) (rs : List Reg) (n : Nat) (f : Nat → Int) : Prop where
  obj : Blk w m 48 #[.slice Ar rs.length cr, .slice (some ⟨gb, 0, none⟩) n n, .bool true]
  bytes : Cells w gb 5 n (fun i => .int .u8 (f i))
  ne : m ≠ gb
  reg : RdReg w w.heap.size Ar rs
  far : ∀ a, Ar = some a → a.block ≠ gb
section
variable {w w' : World} {m gb cr n : Nat} {Ar : Option Addr} {rs : List Reg} {f f' : Nat → Int}
theorem MemAt.below (h : MemAt w m gb Ar cr rs n f) (hb : Below w.heap.size w w') : MemAt w' m gb Ar cr rs n f :=
  ⟨h.obj.below hb h.obj.lt, h.bytes.below hb h.bytes.lt, h.ne, h.reg.below hb, h.far⟩
theorem MemAt.congr (h : MemAt w m gb Ar cr rs n f) (he : ∀ i, i < n → f i = f' i) : MemAt w m gb Ar cr rs n f' :=
  ⟨h.obj, h.bytes.congr fun i hi => by rw [he i hi], h.ne, h.reg, h.far⟩
theorem MemAt.upd (h : MemAt w m gb Ar cr rs n f) (hsz : w.heap.size ≤ w'.heap.size) (hk : ∀ k, k ≠ gb → k < w.heap.size → w'.heap[k]? = w.heap[k]?) (hc : Cells w' gb 5 n (fun i => .int .u8 (f' i))) : MemAt w' m gb Ar cr rs n f' := by
  refine ⟨(hk m h.ne h.obj.lt).trans h.obj, hc, h.ne, fun hn => ?_, h.far⟩
  obtain ⟨b, o, e, hb, hr⟩ := h.reg hn
  have hne := h.far _ e
  have hcell : ∀ q, w'.cell? ⟨b, q, none⟩ = w.cell? ⟨b, q, none⟩ := fun q => by
    simp only [World.cell?, hk b hne hb]
  exact ⟨b, o, e, by omega, fun i hi => by rw [hcell, hcell, hcell]; exact hr i hi⟩
end

/-- a slice without capacity keeps its base's address. -/
def offB (bs sz : Nat) : Nat := if sz = 0 then 0 else bs

set_option maxRecDepth 100000 in
set_option maxHeartbeats 1000000 in
theorem bytes_c {w : World} {m gb cr n : Nat} {Ar : Option Addr} {rs : List Reg} {f : Nat → Int} (hM : MemAt w m gb Ar cr rs n f) (hL : Laid rs n) {k : Nat} (hk : k < rs.length) (bs sz : Nat) (hbs : rs[k].base = bs) (hsz : rs[k].size = sz) :
    Calls Try.prog 37 #[.pointer (some ⟨m, 0, none⟩), .int .i64 k] w fun e w' => e = .returned (.tuple #[.slice (some ⟨gb, offB bs sz, none⟩) sz sz, .int .i64 0]) ∧ Below w.heap.size w w' := by
  obtain ⟨hobj, hby, hne, hreg, hfar⟩ := hM
  have hr := hL.reg k hk
  have hlen := hL.len
  have hm1 := hL.mem1
  have hof := of_c k rs Ar cr w hreg (by omega)
  have hF : findR (fun r => r.part == (k : Int)) rs = (rs[k], true) := by unfold findR; rw [hL.part hk]
  rw [hF] at hof
  have q0 := hobj.cell 0
  have q1 := hobj.cell 1
  have q2 := hobj.cell 2
  simp at q0 q1 q2
  have hmlt := hobj.lt
  have hend := fun W => end_c rs[k] W
  generalize rs[k] = r at *
  obtain ⟨rp, rb, rz⟩ := r
  simp only at *
  subst hbs
  subst hsz
  obtain ⟨h1, h2, h3, h4, h5, h6⟩ := hr
  subst h1
  clear hF hreg hfar
  rw [IntWalk.wrap64_in ((bs : Int) + (sz : Int)) (by omega)] at hend
  go_enter Try.func37, Try.ntmps37
  go_wp2_with fail
  refine hof.mono ?_
  clear hof
  rintro e w1 ⟨rfl, hb1⟩
  have p1 := (hb1.cell (p := ⟨m, 1, none⟩) hmlt).trans q1
  have hm2 : m < w1.heap.size := Nat.lt_of_lt_of_le hmlt hb1.size
  clear q0 q1 q2
  go_wp2_with fail
  refine nameW fun W0 hW0 => ?_
  have hB0 : Below w1.heap.size w1 W0 := by subst hW0; exact (Below.refl _ _).alloc (Nat.le_refl _) _
  have e0 : W0.cell? ⟨w1.heap.size, 0, none⟩ = some (.int .i64 k) := by subst hW0; simp
  have e1 : W0.cell? ⟨w1.heap.size, 1, none⟩ = some (.int .i64 bs) := by subst hW0; simp
  have e2 : W0.cell? ⟨w1.heap.size, 2, none⟩ = some (.int .i64 sz) := by subst hW0; simp
  have p2 := (hB0.cell (p := ⟨m, 1, none⟩) hm2).trans p1
  have hlt0 : w1.heap.size < W0.heap.size := by subst hW0; simp
  have hm3 : m < W0.heap.size := by omega
  have hB1 := hb1.trans (hB0.mono hb1.size)
  clear hW0 p1 hb1 hB0
  have hec := ext_cell W0
  have t1 : (bs : Int) ≤ (bs : Int) + (sz : Int) := by omega
  have t2 : (0 : Int) ≤ (bs : Int) + (sz : Int) := by omega
  rcases Nat.eq_zero_or_pos sz with hz | hz
  · subst hz
    refine wp_region_ext (by kernel_rfl) (by kernel_rfl) ?_
    repeat (go_big_quiet_step ((go_at_call 31; exact ext_call (hend _))))
    refine wpQuiet_nil ?_
    intro _ hw'
    obtain ⟨x, hw''⟩ := hw'
    subst hw''
    have hH := x.h
    generalize x.w = wx at hH ⊢
    clear x
    have hBf := hB1.trans (hH.mono hB1.size)
    clear hec hH
    go_wp2
    go_ret2
    exact ⟨rfl, hBf⟩
  · have ho : offB bs sz = bs := by unfold offB; rw [if_neg (by omega)]
    have t3 : (bs : Int) < (bs : Int) + (sz : Int) := by omega
    refine wp_region_ext (by kernel_rfl) (by kernel_rfl) ?_
    repeat (go_big_quiet_step ((go_at_call 31; exact ext_call (hend _))))
    refine wpQuiet_nil ?_
    intro _ hw'
    obtain ⟨x, hw''⟩ := hw'
    subst hw''
    have hH := x.h
    generalize x.w = wx at hH ⊢
    clear x
    have hBf := hB1.trans (hH.mono hB1.size)
    clear hec hH
    go_wp2
    go_ret2
    exact ⟨by rw [ho, show bs + sz - bs = sz by omega]; rfl, hBf⟩
end Go.Proofs.Ytjgmdchlgabflaa
