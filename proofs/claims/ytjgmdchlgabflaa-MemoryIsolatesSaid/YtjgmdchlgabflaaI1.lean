/- An operation on a memory. -/
import Derived.Test.YtjgmdchlgabflaaM4
namespace Go.Proofs.Ytjgmdchlgabflaa
open Go.ChangeShapes Go.WideShapes Go.ChangeAt Go.RowKit

def actR (f : Nat → Int) (bs sz kind : Nat) (a : Int) : Int × Int := if kind = 2 then (0, 0) else if a < 0 ∨ (sz : Int) ≤ a then (0, 110) else if kind = 0 then (f (bs + a.toNat), 0) else (0, 0)
def actF (f : Nat → Int) (bs sz kind : Nat) (a v : Int) : Nat → Int :=
  if kind = 2 then (fun i => if offB bs sz ≤ i ∧ i < offB bs sz + sz then 0 else f i) else if kind = 1 ∧ ¬ (a < 0 ∨ (sz : Int) ≤ a) then (fun i => if i = bs + a.toNat then v else f i) else f

theorem act_same {f g : Nat → Int} {bs sz kind : Nat} {a : Int} (h : ∀ i, bs ≤ i → i < bs + sz → f i = g i) : actR f bs sz kind a = actR g bs sz kind a := by
  unfold actR
  by_cases h1 : kind = 2
  · rw [if_pos h1, if_pos h1]
  · rw [if_neg h1, if_neg h1]
    by_cases h2 : a < 0 ∨ (sz : Int) ≤ a
    · rw [if_pos h2, if_pos h2]
    · rw [if_neg h2, if_neg h2, h (bs + a.toNat) (by omega) (by omega)]
theorem act_agree {f g : Nat → Int} {bs sz kind : Nat} {a v : Int} (h : ∀ i, bs ≤ i → i < bs + sz → f i = g i) (i : Nat) (h0 : bs ≤ i) (h1 : i < bs + sz) : actF f bs sz kind a v i = actF g bs sz kind a v i := by
  have hi := h i h0 h1
  unfold actF
  by_cases hk : kind = 2
  · rw [if_pos hk, if_pos hk]; simp only [hi]
  · rw [if_neg hk, if_neg hk]
    by_cases h2 : kind = 1 ∧ ¬ (a < 0 ∨ (sz : Int) ≤ a)
    · rw [if_pos h2, if_pos h2]; simp only [hi]
    · rw [if_neg h2, if_neg h2]; exact hi
theorem act_far {f : Nat → Int} {bs sz kind : Nat} {a v : Int} (i : Nat) (h0 : i < bs ∨ bs + sz ≤ i) : actF f bs sz kind a v i = f i := by
  unfold actF
  by_cases hk : kind = 2
  · rw [if_pos hk, if_neg]
    unfold offB
    split <;> omega
  · rw [if_neg hk]
    by_cases h2 : kind = 1 ∧ ¬ (a < 0 ∨ (sz : Int) ≤ a)
    · rw [if_pos h2, if_neg (by omega)]
    · rw [if_neg h2]

section
variable {w w' : World} {m gb cr n : Nat} {Ar : Option Addr} {rs : List Reg} {f : Nat → Int} {k bs sz : Nat}
/-- what an operation on the memory whose bytes are block gb leaves alone. -/
structure Aside (w w' : World) (gb : Nat) : Prop where
  below : ∀ B, B ≤ gb → B ≤ w.heap.size → Below B w w'
  block : ∀ k, k ≠ gb → k < w.heap.size → w'.heap[k]? = w.heap[k]?
  size : w.heap.size ≤ w'.heap.size
theorem Aside.of_below (hb : Below w.heap.size w w') (g : Nat) : Aside w w' g := ⟨fun _ _ h => hb.mono h, fun k _ hk => hb.block k hk, hb.size⟩
theorem Aside.of_set {w1 : World} (hb : Below w.heap.size w w1) (g p : Nat) (v : Value) : Aside w (w1.setCell ⟨g, p, none⟩ v) g :=
  ⟨fun _ hg h => (hb.mono h).setCell (by exact hg) v, fun k hk hkl => (Below.heap_setCell w1 ⟨g, p, none⟩ v k hk).trans (hb.block k hkl), by simpa [World.setCell] using hb.size⟩
theorem Aside.of_sets {w1 : World} (hb : Below w.heap.size w w1) (g p : Nat) (vs : List Value) : Aside w (w1.setCells g p vs) g :=
  ⟨fun _ hg h => Lib.below_setCells _ hg vs p (hb.mono h), fun k hk hkl => (heap_setCells g vs p w1 k hk).trans (hb.block k hkl), by rw [size_setCells]; exact hb.size⟩
theorem MemAt.aside {g : Nat} (h : MemAt w m gb Ar cr rs n f) (ha : Aside w w' g) (h1 : gb ≠ g) (h2 : m ≠ g) (h3 : ∀ a, Ar = some a → a.block ≠ g) : MemAt w' m gb Ar cr rs n f := by
  refine ⟨(ha.block m h2 h.obj.lt).trans h.obj, ?_, h.ne, fun hn => ?_, h.far⟩
  · obtain ⟨cs, hb, r⟩ := h.bytes
    exact ⟨cs, (ha.block gb h1 hb.lt).trans hb, r⟩
  · obtain ⟨b, o, e, hb, hr⟩ := h.reg hn
    have hcell : ∀ q, w'.cell? ⟨b, q, none⟩ = w.cell? ⟨b, q, none⟩ := fun q => by simp only [World.cell?, ha.block b (h3 _ e) hb]
    exact ⟨b, o, e, Nat.lt_of_lt_of_le hb ha.size, fun i hi => by rw [hcell, hcell, hcell]; exact hr i hi⟩

def ActPost (w : World) (m gb : Nat) (Ar : Option Addr) (cr : Nat) (rs : List Reg) (n : Nat) (f' : Nat → Int) (q : Int × Int) (e : Ending) (w' : World) : Prop :=
  e = .returned (.tuple #[.int .u8 q.1, .int .i64 q.2]) ∧ MemAt w' m gb Ar cr rs n f' ∧ Aside w w' gb

set_option maxRecDepth 100000 in
set_option maxHeartbeats 1000000 in
theorem act_c (hM : MemAt w m gb Ar cr rs n f) (hL : Laid rs n) (hk : k < rs.length) (hbs : rs[k].base = bs) (hsz : rs[k].size = sz) (kind : Nat) (hkd : kind < 3) (a v : Int) :
    Calls Try.prog 25 #[.pointer (some ⟨m, 0, none⟩), .int .i64 kind, .int .i64 k, .int .i64 a, .int .u8 v] w (ActPost w m gb Ar cr rs n (actF f bs sz kind a v) (actR f bs sz kind a)) := by
  have hin : offB bs sz + sz ≤ n := by have := (hL.reg k hk).2.2.2.2.2; unfold offB; split <;> omega
  rcases (by omega : kind = 2 ∨ kind = 0 ∨ kind = 1) with rfl | rfl | rfl
  · have hR : actR f bs sz 2 a = (0, 0) := rfl
    have hF : actF f bs sz 2 a v = (fun i => if offB bs sz ≤ i ∧ i < offB bs sz + sz then 0 else f i) := rfl
    rw [hR, hF]
    have hc := clear_m hM hL hk hbs hsz
    clear hL hR hF hbs hsz
    generalize offB bs sz = ob at *
    go_enter Try.func25, Try.ntmps25
    go_wp2_with fail
    refine hc.mono ?_
    clear hc
    rintro e w2 ⟨rfl, w1, hb1, rfl⟩
    have hM2 := hM.cleared hb1 ob sz hin
    have hA2 := Aside.of_sets hb1 gb ob (List.replicate sz (.int .u8 0))
    generalize w1.setCells gb ob (List.replicate sz (.int .u8 0)) = w2 at *
    clear hM
    go_wp2
    go_ret2
    exact ⟨rfl, hM2, hA2⟩
  · by_cases ho : a < 0 ∨ (sz : Int) ≤ a
    · have hR : actR f bs sz 0 a = (0, 110) := by simp [actR, ho]
      have hF : actF f bs sz 0 a v = f := by simp [actF]
      rw [hR, hF]
      have hc := load_out hM hL hk hbs hsz a ho
      clear hL hR hF hbs hsz ho
      go_enter Try.func25, Try.ntmps25
      go_wp2_with fail
      refine hc.mono ?_
      clear hc
      rintro e w2 ⟨rfl, hb1⟩
      have hM2 := hM.below hb1
      have hA2 := Aside.of_below hb1 gb
      clear hM
      go_wp2
      go_ret2
      exact ⟨rfl, hM2, hA2⟩
    · obtain ⟨p, rfl⟩ : ∃ p : Nat, a = p := ⟨a.toNat, by omega⟩
      have hR : actR f bs sz 0 p = (f (bs + p), 0) := by unfold actR; rw [if_neg (by decide), if_neg ho, if_pos rfl]; rfl
      have hF : actF f bs sz 0 p v = f := by simp [actF]
      rw [hR, hF]
      have hc := load_in hM hL hk hbs hsz p (by omega)
      clear hL hR hF hbs hsz ho
      go_enter Try.func25, Try.ntmps25
      go_wp2_with fail
      refine hc.mono ?_
      clear hc
      rintro e w2 ⟨rfl, hb1⟩
      have hM2 := hM.below hb1
      have hA2 := Aside.of_below hb1 gb
      clear hM
      go_wp2
      go_ret2
      exact ⟨rfl, hM2, hA2⟩
  · by_cases ho : a < 0 ∨ (sz : Int) ≤ a
    · have hR : actR f bs sz 1 a = (0, 110) := by simp [actR, ho]
      have hF : actF f bs sz 1 a v = f := by unfold actF; rw [if_neg (by decide), if_neg (fun h => h.2 ho)]
      rw [hR, hF]
      have hc := store_out hM hL hk hbs hsz a ho v
      clear hL hR hF hbs hsz ho
      go_enter Try.func25, Try.ntmps25
      go_wp2_with fail
      refine hc.mono ?_
      clear hc
      rintro e w2 ⟨rfl, hb1⟩
      have hM2 := hM.below hb1
      have hA2 := Aside.of_below hb1 gb
      clear hM
      go_wp2
      go_ret2
      exact ⟨rfl, hM2, hA2⟩
    · obtain ⟨p, rfl⟩ : ∃ p : Nat, a = p := ⟨a.toNat, by omega⟩
      have hR : actR f bs sz 1 p = (0, 0) := by unfold actR; rw [if_neg (by decide), if_neg ho, if_neg (by decide)]
      have hF : actF f bs sz 1 p v = (fun i => if i = bs + p then v else f i) := by unfold actF; rw [if_neg (by decide), if_pos ⟨rfl, ho⟩]; rfl
      rw [hR, hF]
      have hc := store_in hM hL hk hbs hsz p (by omega) v
      clear hL hR hF hbs hsz ho
      go_enter Try.func25, Try.ntmps25
      go_wp2_with fail
      refine hc.mono ?_
      clear hc
      rintro e w2 ⟨rfl, w1, hb1, rfl⟩
      have hM2 := hM.stored hb1 (bs + p) v
      have hA2 := Aside.of_set hb1 gb (bs + p) (.int .u8 v)
      generalize w1.setCell ⟨gb, bs + p, none⟩ (.int .u8 v) = w2 at *
      clear hM
      go_wp2
      go_ret2
      exact ⟨rfl, hM2, hA2⟩
end
end Go.Proofs.Ytjgmdchlgabflaa
