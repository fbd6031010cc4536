/- WindowNext: for any module, offsets and time, the statement's call returns true and leaves its arguments alone. -/
import Derived.Test.YtlmbffnmjfbglaaC0
import Derived.Test.YtlmbffnmjfbglaaX2
namespace Go.Proofs.Ytlmbffnmjfbglaa
open Go.ChangeShapes Go.WideShapes Go.ChangeAt Go.RowKit

/-- the module's box and the table, behind the calls. -/
structure NB (w : World) (name : ByteArray) (mem F : Int) (A : Option Addr) (n c : Nat) (A2 : Option Addr) (l : List Win) (W : World) : Prop where
  bm : Blk W w.heap.size 44 #[.string name, .int .i64 mem, .int .i64 F, .slice A n c]
  rd : RdG Win.tri W W.heap.size A2 l
  hb : Below w.heap.size w W
theorem NB.next {w : World} {name : ByteArray} {mem F : Int} {A : Option Addr} {n c : Nat} {A2 : Option Addr} {l : List Win} {W W' : World} (h : NB w name mem F A n c A2 l W) (hb : Below W.heap.size W W') : NB w name mem F A n c A2 l W' :=
  ⟨h.bm.below hb h.bm.lt, h.rd.below hb, h.hb.trans (hb.mono h.hb.size)⟩
theorem NB.drewN {w : World} {name : ByteArray} {mem F : Int} {A : Option Addr} {n c : Nat} {A2 : Option Addr} {l : List Win} {W : World} (h : NB w name mem F A n c A2 l W) (k : Nat) : NB w name mem F A n c A2 l (W.drewN k) := h.next (below_drewN (Below.refl _ _) k)
theorem NB.alloc {w : World} {name : ByteArray} {mem F : Int} {A : Option Addr} {n c : Nat} {A2 : Option Addr} {l : List Win} {W : World} (h : NB w name mem F A n c A2 l W) (o : Obj) : NB w name mem F A n c A2 l (W.alloc o) := h.next ((Below.refl _ _).alloc (Nat.le_refl _) _)

set_option maxRecDepth 100000 in
set_option maxHeartbeats 4000000 in
theorem next_walk (name : ByteArray) (mem F : Int) (ps : List Part) (A : Option Addr) (c : Nat) (os : List Int) (A' : Option Addr) (c' : Nat) (t : Int) (w : World) (h : RdPart w w.heap.size A ps) (h' : RdInt w w.heap.size A' os) (hl : ps.length ≤ 9223372036854775807) (hl' : os.length ≤ 9223372036854775807) :
    Calls Try.prog 7 #[.agg #[.string name, .int .i64 mem, .int .i64 F, .slice A ps.length c], .slice A' os.length c', .int .i64 t] w fun e w' => e = .returned (.bool true) ∧ Below w.heap.size w w' := by
  have haw := fun W => awake_c W
  have hB : Below w.heap.size w (w.alloc (.cells #[.string name, .int .i64 mem, .int .i64 F, .slice A ps.length c] 44)) := (Below.refl _ w).alloc (Nat.le_refl _) _
  have hblk := Blk.new w 44 #[.string name, .int .i64 mem, .int .i64 F, .slice A ps.length c]
  go_enter Try.func7, Try.ntmps7
  go_wp2_with fail
  generalize w.alloc (.cells #[.string name, .int .i64 mem, .int .i64 F, .slice A ps.length c] 44) = W0 at hB hblk ⊢
  refine (haw W0).mono ?_
  rintro e W1 ⟨rfl, hb1⟩
  have hB1 := hB.trans (hb1.mono hB.size)
  have hk1 := hblk.below hb1 hblk.lt
  clear haw hB hblk hb1
  have q0 : W1.cell? ⟨w.heap.size, 0, none⟩ = some (.string name) := hk1.cell 0
  have q1 : W1.cell? ⟨w.heap.size, 1, none⟩ = some (.int .i64 mem) := hk1.cell 1
  have q2 : W1.cell? ⟨w.heap.size, 2, none⟩ = some (.int .i64 F) := hk1.cell 2
  have q3 : W1.cell? ⟨w.heap.size, 3, none⟩ = some (.slice A ps.length c) := hk1.cell 3
  have ht := table_c name mem F ps A c os A' c' W1 ((h.keep hB1).more hB1.size) ((h'.keep hB1).more hB1.size) hl hl'
  clear h h'
  go_wp2_with fail
  refine ht.mono ?_
  rintro e W2 ⟨A2, c2, q, rfl, hq, hrd, hb2⟩
  have hN : NB w name mem F A ps.length c A2 q.1 W2 := ⟨hk1.below hb2 hk1.lt, hrd, hB1.trans (hb2.mono hB1.size)⟩
  clear ht hB1 hk1 hrd hb2 q0 q1 q2 q3
  by_cases hq0 : q.2 = 0
  case neg =>
    have hne : (q.2 != 0) = true := by simpa using hq0
    have hBf := hN.hb
    obtain ⟨q1, q2⟩ := q
    simp only at *
    clear hq hN hq0
    go_wp2
    go_ret
    exact ⟨rfl, hBf⟩
  obtain ⟨hs0, hnc, hT⟩ : (slotsV F ps os).2 = 0 ∧ NoClash (slotsV F ps os).1 ∧ TableOk F (slotsV F ps os).1 q.1 := by
    rcases hq with ⟨h1, h2⟩ | ⟨_, _, h2⟩ | ⟨h1, h2, _, h4⟩
    · rw [h2] at hq0; exact absurd hq0 h1
    · rw [h2] at hq0; simp at hq0
    · exact ⟨h1, h2, h4⟩
  have hS := slotsV_ok hs0
  generalize (slotsV F ps os).1 = sl at *
  clear hs0 hq
  obtain ⟨l, e2⟩ := q
  simp only at *
  subst hq0
  obtain ⟨hF1, hF2⟩ := hS.frame
  have hslen := hS.len
  by_cases ht0 : 0 ≤ t
  case neg =>
    have hd : decide (t < 0) = true := by simp; omega
    have hBf := hN.hb
    clear hN hS hT hnc
    go_wp2
    go_ret
    exact ⟨rfl, hBf⟩
  by_cases ht1 : t ≤ 536870912
  case neg =>
    have hd0 : decide (t < 0) = false := by simp; omega
    have hd : decide (536870912 < t) = true := by simp; omega
    have hBf := hN.hb
    clear hN hS hT hnc
    go_wp2
    go_ret
    exact ⟨rfl, hBf⟩
  have hc1 : clockB F t = true := decide_eq_true ⟨hF1, hF2, ht0, by omega⟩
  have hc2 : clockB F (t + F) = true := decide_eq_true ⟨hF1, hF2, by omega, by omega⟩
  have hll : l.length ≤ 9223372036854775807 := by
    have h1 := hT.perm.length_eq
    have h2 := winsTo_len hS.ok hF2 sl.length (Nat.le_refl _)
    have h3 := hS.few
    unfold winsOf at h1
    omega
  have hn1 := fun W hW => next_c l A2 c2 F t W hW hll
  have hn2 := fun W hW => next_c l A2 c2 F (t + F) W hW hll
  by_cases hne : 0 < sl.length
  case neg =>
    obtain rfl : l = [] := by
      have hsl : sl = [] := List.eq_nil_of_length_eq_zero (by omega)
      have := hT.perm
      rw [hsl] at this
      simpa [winsOf, winsTo] using this
    have e1 : nextV [] F t = (⟨0, 0, 0⟩, 0, false) := by simp [nextV, nextTo]
    have e2 : nextV [] F (t + F) = (⟨0, 0, 0⟩, 0, false) := by simp [nextV, nextTo]
    rw [e1] at hn1
    rw [e2] at hn2
    have hp0 : decide (0 < ps.length) = false := decide_eq_false (by omega)
    have hp0' : ¬ (0 : Int) < (ps.length : Int) := by omega
    have hpe : (ps.length : Int) ≤ 0 := by omega
    clear e1 e2 hc1 hc2 hS hT hnc hne hslen hll
    have q2 : W2.cell? ⟨w.heap.size, 2, none⟩ = some (.int .i64 F) := hN.bm.cell 2
    go_wp2_with fail
    refine (hn1 W2 hN.rd).mono ?_
    rintro e W3 ⟨rfl, hb3⟩
    have hN3 := hN.next hb3
    clear hn1 hN hb3 q2
    have hN4 := hN3.alloc (.cells #[.int .i64 0, .int .i64 0, .int .i64 0] 31)
    have q2 : W3.cell? ⟨w.heap.size, 2, none⟩ = some (.int .i64 F) := hN3.bm.cell 2
    have z3 := hN3.bm.lt
    go_wp2_with fail
    refine nameC fun W4 hW4 => ?_
    rw [← hW4] at hN4
    clear hW4
    refine (hn2 W4 hN4.rd).mono ?_
    rintro e W5 ⟨rfl, hb5⟩
    have hN5 := hN4.next hb5
    clear hn2 hN4 hb5 q2 hN3
    have q3 : W5.cell? ⟨w.heap.size, 3, none⟩ = some (.slice A ps.length c) := hN5.bm.cell 3
    have z5 := hN5.bm.lt
    have hBf := hN5.hb
    go_wp2
    go_ret
    exact ⟨rfl, hBf.alloc hBf.size _⟩
  obtain ⟨x, u, hok⟩ := tab_next hS hnc hT hne ht0 ht1
  have e1 : nextV l F t = (x, u, true) := by rw [show nextV l F t = nextTo F t l l.length by simp [nextV, hc1]]; exact hok.here
  have e2 : nextV l F (t + F) = (x, u + F, true) := by rw [show nextV l F (t + F) = nextTo F (t + F) l l.length by simp [nextV, hc2]]; exact hok.again
  rw [e1] at hn1
  rw [e2] at hn2
  have how := fun W hW => owner_c l A2 c2 F u W hW hll
  rw [hok.own] at how
  have hge := hok.ge
  have hlt := hok.lt
  have hat := hok.at_
  have Hnone := Lib.hid hok.none_
  have hp1 : (0 : Int) < (ps.length : Int) := by omega
  have hp2 : decide (0 < ps.length) = true := decide_eq_true (by omega)
  have hneq := fun W => neq_Win x x W
  rw [Win.eqB_iff.2 rfl] at hneq
  have hgd := guard_Win
  have hF0 : F ≠ 0 := by omega
  have hu1 : u ≤ 536872912 := by omega
  clear e1 e2 hc1 hc2 hS hT hnc hne hok
  have q2 : W2.cell? ⟨w.heap.size, 2, none⟩ = some (.int .i64 F) := hN.bm.cell 2
  have Hat := Lib.hid hat
  clear hat
  go_wp2_with fail
  refine (hn1 W2 hN.rd).mono ?_
  rintro e W3 ⟨rfl, hb3⟩
  have hN3 := hN.next hb3
  clear hn1 hN hb3 q2
  have hN4 := hN3.alloc (.cells #[.int .i64 x.part, .int .i64 x.start, .int .i64 x.len] 31)
  have hbx := Blk.new W3 31 #[.int .i64 x.part, .int .i64 x.start, .int .i64 x.len]
  have q2 : W3.cell? ⟨w.heap.size, 2, none⟩ = some (.int .i64 F) := hN3.bm.cell 2
  have z3 := hN3.bm.lt
  go_wp2_with fail
  refine nameC fun W4 hW4 => ?_
  rw [← hW4] at hN4 hbx
  clear hW4
  refine (hn2 W4 hN4.rd).mono ?_
  rintro e W5 ⟨rfl, hb5⟩
  have hN5 := hN4.next hb5
  have hbx5 := hbx.below hb5 hbx.lt
  clear hn2 hN4 hb5 q2 hN3 hbx z3
  generalize W3.heap.size = Bx at hbx5 ⊢
  have hN6 := hN5.alloc (.cells #[.int .i64 x.part, .int .i64 x.start, .int .i64 x.len] 31)
  have hby := Blk.new W5 31 #[.int .i64 x.part, .int .i64 x.start, .int .i64 x.len]
  have hbx6 := hbx5.alloc (.cells #[.int .i64 x.part, .int .i64 x.start, .int .i64 x.len] 31)
  have q2 : W5.cell? ⟨w.heap.size, 2, none⟩ = some (.int .i64 F) := hN5.bm.cell 2
  have q3 : W5.cell? ⟨w.heap.size, 3, none⟩ = some (.slice A ps.length c) := hN5.bm.cell 3
  have z5 := hN5.bm.lt
  go_wp2_with fail
  refine nameC fun W6 hW6 => ?_
  rw [← hW6] at hN6 hby hbx6
  clear hW6
  refine (how W6 hN6.rd).mono ?_
  rintro e W7 ⟨rfl, hb7⟩
  have hN7 := hN6.next hb7
  have hby7 := hby.below hb7 hby.lt
  have hbx7 := hbx6.below hb7 hbx6.lt
  clear how hN6 hb7 q2 q3 hN5 hbx5 hbx6 hby z5
  generalize W5.heap.size = By at hby7 ⊢
  have q2 : W7.cell? ⟨w.heap.size, 2, none⟩ = some (.int .i64 F) := hN7.bm.cell 2
  have x0 : W7.cell? ⟨Bx, 0, none⟩ = some (.int .i64 x.part) := hbx7.cell 0
  have x1 : W7.cell? ⟨Bx, 1, none⟩ = some (.int .i64 x.start) := hbx7.cell 1
  have x2 : W7.cell? ⟨Bx, 2, none⟩ = some (.int .i64 x.len) := hbx7.cell 2
  have y0 : W7.cell? ⟨By, 0, none⟩ = some (.int .i64 x.part) := hby7.cell 0
  have y1 : W7.cell? ⟨By, 1, none⟩ = some (.int .i64 x.start) := hby7.cell 1
  have y2 : W7.cell? ⟨By, 2, none⟩ = some (.int .i64 x.len) := hby7.cell 2
  have d1 : decide (u < t) = false := by simp; omega
  have d2 : decide (t + F ≤ u) = false := by simp; omega
  have d3 : (x.part != x.part) = false := by simp
  have d4 : (u % F != x.start) = false := by rw [Hat.out]; simp
  have d5 : (u + F != u + F) = false := by simp
  have m0 : u.tmod F = u % F := Int.tmod_eq_emod_of_nonneg (by omega)
  have m1 : IntKind.i64.wrap (t + F) = t + F := IntWalk.i64_in _ (by omega)
  have m2 : IntKind.i64.wrap (u + F) = u + F := IntWalk.i64_in _ (by omega)
  go_wp2_with fail
  go_quiet (fail)
  clear d1 d2 d3 d4 d5 m0 m1 m2 x0 x1 x2 y0 y1 y2 q2 hneq hbx7 hby7
  go_wp2_with fail
  refine nameW fun W8 hW8 => ?_
  have hN8 : NB w name mem F A ps.length c A2 l W8 := by subst hW8; exact hN7.drewN _
  clear hW8 hN7
  go_loopw [17] (fun v wr => ∃ m : Nat, t + m ≤ u ∧ v = .int .i64 (t + m) ∧ NB w name mem F A ps.length c A2 l wr) (fun v _ => (u - intOf v).toNat)
  case atStart => exact ⟨0, by omega, by simp, hN8⟩
  case round =>
    clear hN8
    obtain ⟨m, hm, rfl, hN⟩ := hrel
    by_cases hmu : t + (m : Int) < u
    · obtain ⟨wo, hwo⟩ : ∃ wo : World, wo = wr := ⟨_, rfl⟩
      subst hwo
      have hnn := Lib.hid (Hnone.out (t + (m : Int)) (by omega) hmu)
      have hsu : Hid (Value.int .i64 (t + (m : Int) + 1) = .int .i64 (t + ((m + 1 : Nat) : Int))) := by show _ = _; rw [Int.natCast_add, Int.add_assoc]; rfl
      have hm1 : t + ((m + 1 : Nat) : Int) ≤ u := by rw [Int.natCast_add]; omega
      have hv0 : 0 ≤ t + (m : Int) := by omega
      generalize t + (m : Int) = v at *
      have Hm1 := Lib.hid hm1
      clear hm1
      go_wp2_with fail
      go_loopw [18] (fun i wr => ∃ k : Nat, k ≤ l.length ∧ i = .int .i64 k ∧ NB w name mem F A ps.length c A2 l wr) (fun i _ => l.length - (intOf i).toNat)
      case atStart => exact ⟨0, Nat.zero_le _, rfl, hN⟩
      case round =>
        clear hN
        obtain ⟨k, hk, rfl, hN⟩ := hrel
        by_cases hlt2 : k < l.length
        · obtain ⟨b, o, rfl, hb, hcc⟩ := hN.rd (by omega)
          obtain ⟨_, c1, _⟩ := hcc k hlt2
          change _ = some (Value.int .i64 l[k].start) at c1
          have hne2 : (l[k].start == v % F) = false := by rw [beq_eq_false_iff_ne]; exact hnn.out k hlt2
          have q2 : wr.cell? ⟨w.heap.size, 2, none⟩ = some (.int .i64 F) := hN.bm.cell 2
          have hi0 : (0 : Int) ≤ (k : Int) := by omega
          have hi1 : (k : Int) < (l.length : Int) := by omega
          have m0 : v.tmod F = v % F := Int.tmod_eq_emod_of_nonneg hv0
          clear hcc
          generalize l[k].start = xs at c1 hne2
          go_wp2_with fail
          go_quiet (fail)
          clear m0
          go_wp2
          go_roundw
          case rel => exact ⟨k + 1, by omega, by go_num, hN.drewN _⟩
          case measure => simp [intOf]; omega
        · go_wp2
          go_roundw
          case rel => exact ⟨m + 1, Hm1.out, hsu.out, hN⟩
          case measure => simp [intOf]; omega
    · have hBf := hN.hb
      go_wp2
      go_ret
      exact ⟨rfl, hBf⟩

-- THE ROW
set_option maxRecDepth 100000 in
theorem windowNext_lifted (os : Os) (started : os.Started) (H : Type) (enc : TypeId × Value → H) :
    ReturnsInHanded {} Try.checked os 7 .any (Rows.windowNextSpec.pre6 enc Try.prog Try.f7 Rows.windowNextRow.domain false) (Rows.windowNextSpec.post enc Try.prog Try.f7 false true false false) := by
  refine returnsInHanded_of_change (C := Try.checked) own started (by kernel_rfl) Try.func7
    (ChangeSpec.witness6 (enc := enc) (C := Try.checked) false ⟨#[], #[.agg #[.string ⟨#[]⟩, .int .i64 0, .int .i64 0, .slice none 0 0], .slice none 0 0, .int .i64 0], []⟩ 8 (by kernel_rfl) (by kernel_rfl) (by kernel_rfl) (by kernel_rfl)) ?_
  intro W base args ds gs before hval0 hW hcnd _
  have hval : ∀ (j : Nat) t v, Try.f7.params[j]? = some t → args[j]? = some v → Value.okWide Try.prog W .any base t v := hval0
  have hW' := hW
  obtain ⟨p, q, hA0, hV, rfl, hfz, hnd⟩ := hW
  have hA : DataW.TrodAll enc Try.prog W 0 (fun _ => true) true Try.f7.params.toList args.toList ds p := hA0
  rw [Try.params7] at hA hval
  obtain ⟨v0, vs0, d0, ds0, p0, q0, hargs, rfl, rfl, h0, r0⟩ := trodAll_cons hA
  obtain ⟨v1, vs1, d1, ds1, p1, q1, rfl, rfl, rfl, h1, r1⟩ := trodAll_cons r0
  obtain ⟨v2, vs2, d2, ds2, p2, q2, rfl, rfl, rfl, h2, r2⟩ := trodAll_cons r1
  obtain ⟨rfl, rfl, rfl⟩ := trodAll_nil r2
  obtain rfl : args = #[v0, v1, v2] := by cases args; simp_all
  obtain ⟨name0, mem0, frame0, A0, c0, l0, rfl, km0, kf0, hlc0, hcm0, hR0, hP0⟩ := open_module (hval 0 44 v0 rfl rfl) h0
  obtain ⟨A1, c1, l1, rfl, hlc1, hcm1, hR1, hP1⟩ := open_ints1 (hval 1 45 v1 rfl rfl) h1
  obtain ⟨a2, rfl, rfl, rfl, w2⟩ := open_int Try.underlying3 (hval 2 3 v2 rfl rfl) h2
  clear hA0 hval0
  refine (next_walk name0 mem0 frame0 l0 A0 c0 l1 A1 c1 a2 W hR0 hR1 (Nat.le_trans hlc0 hcm0) (Nat.le_trans hlc1 hcm1)).mono fun e W' ⟨he, hg⟩ => ?_
  subst he
  refine ⟨_, rfl, law_post (tb := 4) laid ?_ ?_ Try.underlying4 rfl hW' ⟨rfl, rfl, rfl⟩ hg⟩
  · rw [Try.params7]; intro t ht; simp at ht; rcases ht with rfl | rfl | rfl <;> exact ⟨by kernel_rfl, of_decide_eq_true (by kernel_rfl)⟩
  · kernel_rfl

theorem windowNext_holds : Rows.WindowNextSaid :=
  OpenClaim.holds_of_wide 7 Try.f7 rfl rfl rfl rfl rfl rfl rfl ⟨rfl, rfl, rfl, rfl, rfl⟩ rfl rfl rfl rfl rfl (by kernel_rfl) Try.func7 (by kernel_rfl)
    (of_decide_eq_true (by kernel_rfl)) (by unfold Func.isWrapper; first | (rw [if_pos (by decide +kernel)]; kernel_rfl) | (rw [if_neg (by decide +kernel)]; exact ⟨rfl, rfl⟩))
    (fun os started H enc _ => windowNext_lifted os started H enc)
#print axioms windowNext_holds
end Go.Proofs.Ytlmbffnmjfbglaa
