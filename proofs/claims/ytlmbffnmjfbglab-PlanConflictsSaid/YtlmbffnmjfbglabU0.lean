/- The number of claims: Size. -/
import Derived.Test.YtlmbffnmjfbglabP8
set_option linter.unusedSimpArgs false
set_option linter.unusedVariables false
namespace Go.Proofs.Ytlmbffnmjfbglab
open Go.ChangeShapes Go.WideShapes Go.ChangeAt Go.RowKit

mutual
/-- the claims below a claim. -/
def Claim.subN : Claim → Nat | .mk _ _ _ s => sizeL s
/-- claims, and all below them. -/
def sizeL : List Claim → Nat | [] => 0 | x :: r => 1 + x.subN + sizeL r
end
theorem sizeL_append (a b : List Claim) : sizeL (a ++ b) = sizeL a + sizeL b := by
  induction a with
  | nil => simp [sizeL]
  | cons x a ih => simp only [List.cons_append, sizeL, ih]; omega
theorem sizeL_take (l : List Claim) (k : Nat) (h : k < l.length) : sizeL (l.take (k + 1)) = sizeL (l.take k) + 1 + l[k].subN := by
  rw [List.take_add_one, List.getElem?_eq_getElem h, sizeL_append]
  simp [sizeL]; omega
theorem sizeL_len (l : List Claim) : l.length ≤ sizeL l := by
  induction l with
  | nil => simp
  | cons x l ih => simp only [List.length_cons, sizeL]; omega
theorem sizeL_mem {l : List Claim} {k : Nat} (h : k < l.length) : l[k].subN < sizeL l := by
  have h1 := sizeL_take l k h
  have h2 : sizeL (l.take (k + 1)) ≤ sizeL l := by
    have := sizeL_append (l.take (k + 1)) (l.drop (k + 1))
    rw [List.take_append_drop] at this
    omega
  omega
theorem Claim.subN_sub (x : Claim) : x.subN = sizeL x.sub := by cases x; simp [Claim.subN, Claim.sub]
theorem wrap_add (a b : Int) : IntKind.i64.wrap (IntKind.i64.wrap a + IntKind.i64.wrap b) = IntKind.i64.wrap (a + b) := by
  simp only [IntKind.wrap_i64]; omega
/-- claims whose arrays are there. -/
abbrev RdK (w : World) (A : Option Addr) (l : List Claim) : Prop := RdCls w (fun b => b < w.heap.size) A l
theorem RdK.keep' {w w' : World} {A : Option Addr} {l : List Claim} (hb : Below w.heap.size w w') (h : RdK w A l) : RdK w' A l :=
  h.keep fun b hlt => ⟨fun _ => World.cell?_of_block (hb.block b hlt), Nat.lt_of_lt_of_le hlt hb.size⟩

set_option maxRecDepth 100000 in
set_option maxHeartbeats 2000000 in
theorem size_c : ∀ (N : Nat) (l : List Claim), sizeL l < N → ∀ (A : Option Addr) (c : Nat) (w : World), RdK w A l → l.length ≤ 9223372036854775807 →
    Calls Try.prog 32 #[.slice A l.length c] w fun e w' => e = .returned (.int .i64 (IntKind.i64.wrap (sizeL l))) ∧ Below w.heap.size w w' := by
  intro N
  induction N with
  | zero => intro l hl; omega
  | succ N ih =>
    intro l hl A c w h hlen
    have hw0 : IntKind.i64.wrap (l.length : Int) = l.length := IntWalk.i64_in _ (by omega)
    have IH := Lib.hid ih
    clear ih
    go_enter Try.func32, Try.ntmps32
    go_wp2_with fail
    go_loopw [3, 10] (fun n i wr => ∃ k : Nat, k ≤ l.length ∧ i = .int .i64 k ∧ n = .int .i64 (IntKind.i64.wrap (sizeL (l.take k) + (l.length - k : Nat) : Nat)) ∧ Below w.heap.size w wr) (fun _ i _ => l.length - (intOf i).toNat)
    case atStart => exact ⟨0, Nat.zero_le _, rfl, by simp [sizeL, hw0], Below.refl _ _⟩
    case round =>
      obtain ⟨k, hk, rfl, rfl, hB⟩ := hrel
      by_cases hlt : k < l.length
      · obtain ⟨b, o, rfl, hb, hl2⟩ := RdK.keep' hB h (by omega)
        have hx := RdL.at_ l o k hlt hl2
        have hsub := sizeL_mem hlt
        have htk := sizeL_take l k hlt
        rw [Claim.subN_sub] at hsub htk
        cases hcx : l[k] with
        | mk f t wi sub =>
        rw [hcx] at hx hsub htk
        simp only [RdC] at hx
        simp only [Claim.sub] at hsub htk
        obtain ⟨c0, c1, c2, A', c', c3, hc1, hc2, hrd⟩ := hx
        have hi0 : (0 : Int) ≤ (k : Int) := by omega
        have hi1 : (k : Int) < (l.length : Int) := by omega
        have hnew := Blk.new wr 35 #[.int .i64 f, .int .i64 t, .int .i64 wi, .slice A' sub.length c']
        have hB1 : Below wr.heap.size wr (wr.alloc (.cells #[.int .i64 f, .int .i64 t, .int .i64 wi, .slice A' sub.length c'] 35)) := (Below.refl _ _).alloc (Nat.le_refl _) _
        have hsz := IH.out sub (by omega) A' c' (wr.alloc (.cells #[.int .i64 f, .int .i64 t, .int .i64 wi, .slice A' sub.length c'] 35)) (RdK.keep' hB1 (show RdK wr A' sub from hrd)) (by unfold maxLen at hc2; omega)
        have hfin : ∀ x y : Int, x = IntKind.i64.wrap (sizeL (l.take k) + (l.length - k : Nat) : Nat) → y = IntKind.i64.wrap (sizeL sub) → wrap64 (x + y) = IntKind.i64.wrap (sizeL (l.take (k + 1)) + (l.length - (k + 1) : Nat) : Nat) := fun x y hx hy => by
          subst hx hy
          have e := wrap_add (sizeL (l.take k) + (l.length - k : Nat) : Nat) (sizeL sub)
          rw [IntKind.wrap_i64] at e
          unfold wrap64
          rw [e]
          congr 1
          rw [htk]
          omega
        obtain ⟨x, hx⟩ : ∃ x, x = IntKind.i64.wrap (sizeL (l.take k) + (l.length - k : Nat) : Nat) := ⟨_, rfl⟩
        obtain ⟨y, hy⟩ : ∃ y, y = IntKind.i64.wrap (sizeL sub) := ⟨_, rfl⟩
        have Hf := Lib.hid (hfin x y hx hy)
        rw [← hx]
        rw [← hy] at hsz
        clear hl2 h hcx hrd hnew hfin hx hy htk hsub hw0
        go_wp2_with fail
        refine hsz.mono ?_
        rintro e w2 ⟨rfl, hb2⟩
        have hB2 : Below w.heap.size w w2 := hB.trans ((hB1.trans (hb2.mono hB1.size)).mono hB.size)
        clear hsz c0 c1 c2 c3 hB hB1 hb2 hi0 hi1
        go_wp2
        go_roundw
        case rel => exact ⟨k + 1, by omega, by go_num, by rw [Hf.out], hB2⟩
        case measure => simp [intOf]; omega
      · obtain rfl : k = l.length := by omega
        rw [List.take_length, Nat.sub_self, Nat.add_zero]
        obtain ⟨x, hx⟩ : ∃ x, x = IntKind.i64.wrap (sizeL l) := ⟨_, rfl⟩
        rw [← hx]
        have Hx := Lib.hid hx
        clear hw0 hlt h hl hx
        go_wp2
        go_ret
        exact ⟨ret_int Hx.out, hB⟩
end Go.Proofs.Ytlmbffnmjfbglab
