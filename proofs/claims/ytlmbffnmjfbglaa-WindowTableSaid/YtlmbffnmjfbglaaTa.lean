/- WindowTable: for any module and offsets, the statement's call returns true and leaves its arguments alone. -/
import Derived.Test.YtlmbffnmjfbglaaFi
import Derived.IntWalk
namespace Go.Proofs.Ytlmbffnmjfbglaa
open Go.ChangeShapes Go.WideShapes Go.ChangeAt Go.RowKit

theorem slotsV_two (F : Int) (ps : List Part) (os : List Int) : (slotsV F ps os).2 = 0 ∨ (slotsV F ps os).2 = 2 := by
  unfold slotsV
  split
  · split
    · exact .inr rfl
    · exact .inl rfl
  · exact .inr rfl

/-- the module's box and the table, behind the calls. -/
structure TB (w : World) (name : ByteArray) (mem F : Int) (A : Option Addr) (n c : Nat) (A2 : Option Addr) (l : List Win) (W : World) : Prop where
  bm : Blk W w.heap.size 44 #[.string name, .int .i64 mem, .int .i64 F, .slice A n c]
  rd : RdG Win.tri W W.heap.size A2 l
  hb : Below w.heap.size w W
section
variable {w : World} {name : ByteArray} {mem F : Int} {A : Option Addr} {n c : Nat} {A2 : Option Addr} {l : List Win} {W W' : World}
theorem TB.next (h : TB w name mem F A n c A2 l W) (hb : Below W.heap.size W W') : TB w name mem F A n c A2 l W' :=
  ⟨h.bm.below hb h.bm.lt, h.rd.below hb, h.hb.trans (hb.mono h.hb.size)⟩
theorem TB.drewN (h : TB w name mem F A n c A2 l W) (k : Nat) : TB w name mem F A n c A2 l (W.drewN k) := h.next (below_drewN (Below.refl _ _) k)
theorem TB.alloc (h : TB w name mem F A n c A2 l W) (o : Obj) : TB w name mem F A n c A2 l (W.alloc o) := h.next ((Below.refl _ _).alloc (Nat.le_refl _) _)
end
theorem ofP_le (i : Nat) (l : List Win) (j : Nat) : ofP i l j ≤ j := by
  unfold ofP
  have h1 := List.length_filter_le (partB i) (l.take j)
  have h2 := List.length_take_le j l
  omega

set_option maxRecDepth 100000 in
set_option maxHeartbeats 4000000 in
theorem tableS_walk (name : ByteArray) (mem F : Int) (ps : List Part) (A : Option Addr) (c : Nat) (os : List Int) (A' : Option Addr) (c' : Nat) (w : World) (h : RdPart w w.heap.size A ps) (h' : RdInt w w.heap.size A' os) (hl : ps.length ≤ 9223372036854775807) (hl' : os.length ≤ 9223372036854775807) :
    Calls Try.prog 11 #[.agg #[.string name, .int .i64 mem, .int .i64 F, .slice A ps.length c], .slice A' os.length c'] w fun e w' => e = .returned (.bool true) ∧ Below w.heap.size w w' := by
  have haw := fun W => awake_c W
  have hB : Below w.heap.size w (w.alloc (.cells #[.string name, .int .i64 mem, .int .i64 F, .slice A ps.length c] 44)) := (Below.refl _ w).alloc (Nat.le_refl _) _
  have hblk := Blk.new w 44 #[.string name, .int .i64 mem, .int .i64 F, .slice A ps.length c]
  go_enter Try.func11, Try.ntmps11
  go_wp2_with fail
  generalize w.alloc (.cells #[.string name, .int .i64 mem, .int .i64 F, .slice A ps.length c] 44) = W0 at hB hblk ⊢
  refine (haw W0).mono ?_
  rintro e W1 ⟨rfl, hb1⟩
  have hB1 := hB.trans (hb1.mono hB.size)
  have hk1 := hblk.below hb1 hblk.lt
  clear haw hB hblk hb1
  have q0 : W1.cell? ⟨w.heap.size, 0, none⟩ = some (.string name) := hk1.cell 0
  have q1 : W1.cell? ⟨w.heap.size, 1, none⟩ = some (.int .i64 mem) := hk1.cell 1
  have q2 : W1.cell? ⟨w.heap.size, 2, none⟩ = some (.int .i64 F) := hk1.cell 2
  have q3 : W1.cell? ⟨w.heap.size, 3, none⟩ = some (.slice A ps.length c) := hk1.cell 3
  have ht := table_c name mem F ps A c os A' c' W1 ((h.keep hB1).more hB1.size) ((h'.keep hB1).more hB1.size) hl hl'
  go_wp2_with fail
  refine ht.mono ?_
  rintro e W2 ⟨A2, c2, q, rfl, hq, hrd, hb2⟩
  have hN : TB w name mem F A ps.length c A2 q.1 W2 := ⟨hk1.below hb2 hk1.lt, hrd, hB1.trans (hb2.mono hB1.size)⟩
  clear ht hB1 hk1 hrd hb2 q0 q1 q2 q3
  by_cases hq0 : q.2 = 0
  case neg =>
    have hne : (q.2 != 0) = true := by simpa using hq0
    have hBf := hN.hb
    have hqq : q = ([], 2) ∨ q = ([], 120) := by
      rcases hq with ⟨h1, h2⟩ | ⟨_, _, h2⟩ | ⟨_, _, h2, _⟩
      · rcases slotsV_two F ps os with h3 | h3
        · exact absurd h3 h1
        · rw [h3] at h2; exact .inl h2
      · exact .inr h2
      · exact absurd h2 hq0
    clear hq hN hq0 hne h h'
    rcases hqq with rfl | rfl
    · go_wp2
      go_ret
      exact ⟨rfl, hBf⟩
    · go_wp2
      go_ret
      exact ⟨rfl, hBf⟩
  obtain ⟨hs0, hnc, hT⟩ : (slotsV F ps os).2 = 0 ∧ NoClash (slotsV F ps os).1 ∧ TableOk F (slotsV F ps os).1 q.1 := by
    rcases hq with ⟨h1, h2⟩ | ⟨_, _, h2⟩ | ⟨h1, h2, _, h4⟩
    · rw [h2] at hq0; exact absurd hq0 h1
    · rw [h2] at hq0; simp at hq0
    · exact ⟨h1, h2, h4⟩
  have hfit := fits_table hs0 rfl hnc hT
  have hS := slotsV_ok hs0
  generalize (slotsV F ps os).1 = sl at *
  clear hs0 hq
  obtain ⟨l, e2⟩ := q
  simp only at *
  subst hq0
  obtain ⟨hF1, hF2⟩ := hS.frame
  have hfew := hS.few
  have Hlen := Lib.hid hS.len
  have Holen := Lib.hid hS.olen
  have hll : l.length ≤ 12000 := by
    have h1 := hT.perm.length_eq
    have h2 := winsTo_len hS.ok hF2 sl.length (Nat.le_refl _)
    unfold winsOf at h1
    omega
  have hfc := fun W hp hW => fits_c name mem F ps A c l A2 c2 W hp hW hl (by omega)
  rw [hfit] at hfc
  clear hfit
  have hp6 : ps.length ≤ 6 := by have := Hlen.out; omega
  have HS := Lib.hid hS
  have HT := Lib.hid hT
  have HN := Lib.hid hnc
  clear hS hT hnc
  go_wp2_with fail
  go_loopw [7, 8] (fun v i wr => ∃ k : Nat, k ≤ ps.length ∧ i = .int .i64 k ∧ v = .int .i64 (winsTo F sl k).length ∧ TB w name mem F A ps.length c A2 l wr) (fun _ i _ => ps.length - (intOf i).toNat)
  case atStart => exact ⟨0, Nat.zero_le _, rfl, rfl, hN⟩
  case round =>
    clear hN
    obtain ⟨i, hi, rfl, rfl, hN⟩ := hrel
    have q3 : wr.cell? ⟨w.heap.size, 3, none⟩ = some (.slice A ps.length c) := hN.bm.cell 3
    by_cases hlt : i < ps.length
    · obtain ⟨b, o, rfl, hb, hcp⟩ := h.keep hN.hb (by omega)
      have hck := hcp i hlt
      have hB := hN.hb.size
      have hls := winsTo_len HS.out.ok hF2 i (by have := Hlen.out; omega)
      have his : i < sl.length := by have := Hlen.out; omega
      have hz : sl[i].per = ps[i].period ∧ sl[i].len = ps[i].length ∧ sl[i].off = os[i]'(by have := Holen.out; omega) := by
        have e2 := HS.out.zip
        have h3 := HS.out.olen
        have : sl[i] = (zipS os ps)[i]'(by rw [← e2]; exact his) := by simp only [← e2]
        rw [this, zipS_get os ps i (by rw [← e2]; exact his) (by omega) (by omega)]
        exact ⟨rfl, rfl, rfl⟩
      have hok := HS.out.ok _ (List.getElem_mem his)
      obtain ⟨hcn, hcq⟩ := cnt_pos HS.out (List.getElem_mem his)
      have hcb := cnt_bd hok hF2
      have Hsucc := Lib.hid (winsTo_len_succ F sl i his)
      have Hall := Lib.hid (tab_all HS.out HN.out HT.out i his)
      have Hof := Lib.hid (fun j hj hp => tab_of HS.out HN.out HT.out i his j hj hp)
      have Hz := Lib.hid hz
      have Hcq := Lib.hid hcq
      clear hz hcp hcq
      generalize ps[i] = p at *
      have c0 := hck 0 _ rfl
      have c1 := hck 1 _ rfl
      have c2 := hck 2 _ rfl
      have c3 := hck 3 _ rfl
      have c4 := hck 4 _ rfl
      have c5 := hck 5 _ rfl
      have c6 := hck 6 _ rfl
      have c7 := hck 7 _ rfl
      have c8 := hck 8 _ rfl
      have c9 := hck 9 _ rfl
      rw [Nat.add_zero] at c0
      clear hck
      have hi0 : (0 : Int) ≤ (i : Int) := by omega
      have hi1 : (i : Int) < (ps.length : Int) := by omega
      go_wp2_with fail
      refine nameW fun W0 hW0 => ?_
      have hbx : Blk W0 wr.heap.size 53 p.cells.toArray := by subst hW0; exact Blk.new wr 53 _
      have hN2 : TB w name mem F (some ⟨b, o, none⟩) ps.length c A2 l W0 := by subst hW0; exact hN.alloc _
      clear hW0 c0 c1 c2 c3 c4 c5 c6 c7 c8 c9 hN q3
      generalize wr.heap.size = Bx at hbx ⊢
      go_loopw [10, 11] (fun v j wr => ∃ k : Nat, k ≤ l.length ∧ j = .int .i64 k ∧ v = .int .i64 (ofP i l k) ∧ TB w name mem F (some ⟨b, o, none⟩) ps.length c A2 l wr ∧ Blk wr Bx 53 p.cells.toArray) (fun _ j _ => l.length - (intOf j).toNat)
      case atStart => exact ⟨0, Nat.zero_le _, rfl, by rw [ofP_zero]; rfl, hN2, hbx⟩
      case round =>
        clear hN2 hbx
        obtain ⟨k, hk, rfl, rfl, hN, hbx⟩ := hrel
        by_cases hlt2 : k < l.length
        · obtain ⟨b2, o2, rfl, hb2, hcc⟩ := hN.rd (by omega)
          obtain ⟨c0, c1, c2⟩ := hcc k hlt2
          change _ = some (Value.int .i64 l[k].part) at c0
          change _ = some (Value.int .i64 l[k].start) at c1
          change _ = some (Value.int .i64 l[k].len) at c2
          have hos := ofP_succ i l k hlt2
          have hol := ofP_le i l k
          have hj0 : (0 : Int) ≤ (k : Int) := by omega
          have hj1 : (k : Int) < (l.length : Int) := by omega
          cases hpb : partB i l[k] with
          | false =>
            rw [hpb] at hos
            have Hos := Lib.hid (show ofP i l (k + 1) = ofP i l k by rw [hos]; rfl)
            have hne : (l[k].part != (i : Int)) = true := by simp only [partB] at hpb; simp only [bne, hpb]; rfl
            clear hos hpb hcc c1 c2
            generalize l[k].part = xp at c0 hne
            go_wp2
            go_roundw
            case rel => exact ⟨k + 1, by omega, by go_num, by rw [Hos.out], hN, hbx⟩
            case measure => simp [intOf]; omega
          | true =>
            rw [hpb] at hos
            have Hos := Lib.hid (show ofP i l (k + 1) = ofP i l k + 1 by rw [hos]; rfl)
            obtain ⟨g1, g2, g3⟩ := Hof.out k hlt2 hpb
            have hne : (l[k].part != (i : Int)) = false := by simp only [partB] at hpb; simp only [bne, hpb]; rfl
            obtain ⟨z1, z2, z3⟩ := Hz.out
            rw [g2] at c1
            rw [g3, z2] at c2
            unfold Slot.tk at c1
            rw [z1, z3] at c1
            obtain ⟨a1, a2, a3, a4, a5, a6⟩ := hok
            rw [z1] at a1 a2 a4 a6
            rw [z2] at a3 a4 a6
            rw [z3] at a5 a6
            have hio : i < os.length := by have := Holen.out; omega
            obtain ⟨b3, o3, rfl, hb3, hcd⟩ := h'.keep hN.hb (by omega)
            have d0 := hcd i hio
            have e1 : wr.cell? ⟨Bx, 1, none⟩ = some (.int .i64 p.period) := hbx.cell 1
            have e2 : wr.cell? ⟨Bx, 2, none⟩ = some (.int .i64 p.length) := hbx.cell 2
            have hj2 : (i : Int) < (os.length : Int) := by omega
            clear hos hpb hcc g2 g3 z1 z2 z3 hcd
            generalize os[i] = O at *
            generalize p.period = P at *
            generalize p.length = L at *
            generalize ofP i l k = n at *
            have hn2 : (n : Int) ≤ 2000 := by omega
            have hX0 : 0 ≤ (n : Int) * P := Int.mul_nonneg (by omega) (by omega)
            have hX1 : (n : Int) * P ≤ 2000 * 2000 := Int.mul_le_mul (by omega) (by omega) (by omega) (by omega)
            have hV : ((n : Int) + 1) * P = n * P + P := by rw [Int.add_mul]; omega
            have m1 := IntWalk.i64_in ((n : Int) * P) (by omega)
            have m2 := IntWalk.i64_in (O + (n : Int) * P) (by omega)
            have m3 := IntWalk.i64_in (O + (n : Int) * P + L) (by omega)
            have m4 := IntWalk.i64_in ((n : Int) + 1) (by omega)
            have m5 := IntWalk.i64_in (((n : Int) + 1) * P) (by omega)
            have t1 : (O + (n : Int) * P != O + (n : Int) * P) = false := by simp
            have t2 : (L != L) = false := by simp
            have t3 : decide (((n : Int) + 1) * P < O + (n : Int) * P + L) = false := by simp; omega
            have m6 : (n : Int) + 1 ≤ 3000 := by omega
            have m7 : 0 ≤ (n : Int) := by omega
            clear hV hX0 hX1
            go_wp2_with fail
            go_quiet (fail)
            clear m1 m2 m3 m4 m5 t1 t2 t3 c0 c1 c2 d0 e1 e2
            go_wp2
            go_roundw
            case rel => exact ⟨k + 1, by omega, by go_num, by rw [Hos.out]; go_num, hN.drewN _, hbx.drewN _⟩
            case measure => simp [intOf]; omega
        · obtain rfl : k = l.length := by omega
          have q2 : wr.cell? ⟨w.heap.size, 2, none⟩ = some (.int .i64 F) := hN.bm.cell 2
          have e1 : wr.cell? ⟨Bx, 1, none⟩ = some (.int .i64 p.period) := hbx.cell 1
          have hsz := hN.bm.lt
          obtain ⟨z1, z2, z3⟩ := Hz.out
          obtain ⟨a1, a2, a3, a4, a5, a6⟩ := hok
          rw [z1] at a1
          have hcn2 := Hcq.out
          rw [z1] at hcn2
          rw [Hall.out]
          have Hsucc2 := Lib.hid (show ((winsTo F sl (i + 1)).length : Int) = (winsTo F sl i).length + (cntS F sl[i] : Int) by rw [Hsucc.out]; simp)
          generalize cntS F sl[i] = n at *
          generalize p.period = P at *
          have hP0 : P ≠ 0 := by omega
          have m0 : F.tdiv P = F / P := Int.tdiv_eq_ediv_of_nonneg (by omega)
          have hF0 : 0 ≤ F := by omega
          have hq0 : 0 ≤ F / P := Int.ediv_nonneg (by omega) (by omega)
          have hq1 : F / P ≤ 2000 := by have := Int.ediv_le_self P hF0; omega
          have t1 : ((n : Int) != F / P) = false := by rw [hcn2]; simp
          have hw : ((winsTo F sl i).length : Int) ≤ 20000 := by omega
          have hw2 : (n : Int) ≤ 2000 := by omega
          clear hcn2 z1 z2 z3 hls
          generalize (winsTo F sl i).length = W0n at *
          go_wp2
          go_roundw
          case rel => exact ⟨i + 1, by omega, by go_num, by rw [Hsucc2.out], hN⟩
          case measure => simp [intOf]; omega
    · obtain rfl : i = ps.length := by omega
      have e1 : ((winsTo F sl ps.length).length : Int) = (l.length : Int) := by rw [tab_len HT.out, Hlen.out]
      rw [e1]
      clear e1
      have Hlt := Lib.hid (fun a b hab hb => tab_lt HS.out HN.out HT.out a b hab hb)
      have Hin := Lib.hid (fun x (hx : x ∈ l) => tab_in HS.out HT.out hx)
      go_wp2_with fail
      clear q3
      go_loopw [12] (fun v wr => ∃ k : Nat, k ≤ l.length ∧ v = .int .i64 ((k : Int) + 1) ∧ TB w name mem F A ps.length c A2 l wr) (fun v _ => (l.length + 1 - intOf v).toNat)
      case atStart => exact ⟨0, Nat.zero_le _, rfl, hN⟩
      case round =>
        clear hN
        obtain ⟨k, hk, rfl, hN⟩ := hrel
        by_cases hlt2 : k + 1 < l.length
        · obtain ⟨b2, o2, rfl, hb2, hcc⟩ := hN.rd (by omega)
          obtain ⟨_, c1, c2⟩ := hcc k (by omega)
          obtain ⟨_, c3, _⟩ := hcc (k + 1) hlt2
          change _ = some (Value.int .i64 (l[k]'(by omega)).start) at c1
          change _ = some (Value.int .i64 (l[k]'(by omega)).len) at c2
          change _ = some (Value.int .i64 l[k + 1].start) at c3
          have hle := Hlt.out k (k + 1) (by omega) hlt2
          obtain ⟨x0, x1, x2, x3, _⟩ := Hin.out _ (List.getElem_mem (show k < l.length by omega))
          have hj0 : (0 : Int) ≤ (k : Int) := by omega
          have hj1 : (k : Int) < (l.length : Int) := by omega
          have hj2 : (0 : Int) ≤ (k : Int) + 1 := by omega
          have hj3 : (k : Int) + 1 < (l.length : Int) := by omega
          have hj4 : ((k : Int) + 1).toNat = k + 1 := by omega
          clear hcc
          generalize l[k]'(by omega) = x at *
          generalize l[k + 1] = y at *
          obtain ⟨xp, xs, xn⟩ := x
          obtain ⟨yp, ys, yn⟩ := y
          simp only at *
          have m1 := IntWalk.i64_in (xs + xn) (by omega)
          have m2 := IntWalk.i64_in ((k : Int) + 1 - 1) (by omega)
          have m3 := IntWalk.i64_in (k : Int) (by omega)
          have t1 : decide (ys < xs + xn) = false := by simp; omega
          have hj5 : (k : Int) ≤ 12000 := by omega
          go_wp2_with fail
          go_quiet (fail)
          clear m1 m2 m3 t1 c1 c2 c3 hj4
          go_wp2
          go_roundw
          case rel => exact ⟨k + 1, by omega, by go_num, hN.drewN _⟩
          case measure => simp [intOf]; omega
        · have q0 : wr.cell? ⟨w.heap.size, 0, none⟩ = some (.string name) := hN.bm.cell 0
          have q1 : wr.cell? ⟨w.heap.size, 1, none⟩ = some (.int .i64 mem) := hN.bm.cell 1
          have q2 : wr.cell? ⟨w.heap.size, 2, none⟩ = some (.int .i64 F) := hN.bm.cell 2
          have q3 : wr.cell? ⟨w.heap.size, 3, none⟩ = some (.slice A ps.length c) := hN.bm.cell 3
          have hf := hfc wr ((h.keep hN.hb).more hN.hb.size) hN.rd
          have hB := hN.hb
          have hge : ¬ (k : Int) + 1 < (l.length : Int) := by omega
          have hge2 : decide ((k : Int) + 1 < (l.length : Int)) = false := decide_eq_false hge
          clear hN hfc
          go_wp2_with fail
          refine hf.mono ?_
          rintro e W5 ⟨rfl, hb5⟩
          have hB5 := hB.trans (hb5.mono hB.size)
          clear hf hb5 hB q0 q1 q2 q3 hge2
          go_wp2
          go_ret
          exact ⟨rfl, hB5⟩

-- THE ROW
set_option maxRecDepth 100000 in
theorem windowTable_lifted (os : Os) (started : os.Started) (H : Type) (enc : TypeId × Value → H) :
    ReturnsInHanded {} Try.checked os 11 .any (Rows.windowTableSpec.pre6 enc Try.prog Try.f11 Rows.windowTableRow.domain false) (Rows.windowTableSpec.post enc Try.prog Try.f11 false true false false) := by
  refine returnsInHanded_of_change (C := Try.checked) own started (by kernel_rfl) Try.func11
    (ChangeSpec.witness6 (enc := enc) (C := Try.checked) false ⟨#[], #[.agg #[.string ⟨#[]⟩, .int .i64 0, .int .i64 0, .slice none 0 0], .slice none 0 0], []⟩ 8 (by kernel_rfl) (by kernel_rfl) (by kernel_rfl) (by kernel_rfl)) ?_
  intro W base args ds gs before hval0 hW hcnd _
  have hval : ∀ (j : Nat) t v, Try.f11.params[j]? = some t → args[j]? = some v → Value.okWide Try.prog W .any base t v := hval0
  have hW' := hW
  obtain ⟨p, q, hA0, hV, rfl, hfz, hnd⟩ := hW
  have hA : DataW.TrodAll enc Try.prog W 0 (fun _ => true) true Try.f11.params.toList args.toList ds p := hA0
  rw [Try.params11] at hA hval
  obtain ⟨v0, vs0, d0, ds0, p0, q0, hargs, rfl, rfl, h0, r0⟩ := trodAll_cons hA
  obtain ⟨v1, vs1, d1, ds1, p1, q1, rfl, rfl, rfl, h1, r1⟩ := trodAll_cons r0
  obtain ⟨rfl, rfl, rfl⟩ := trodAll_nil r1
  obtain rfl : args = #[v0, v1] := by cases args; simp_all
  obtain ⟨name0, mem0, frame0, A0, c0, l0, rfl, km0, kf0, hlc0, hcm0, hR0, hP0⟩ := open_module (hval 0 44 v0 rfl rfl) h0
  obtain ⟨A1, c1, l1, rfl, hlc1, hcm1, hR1, hP1⟩ := open_ints1 (hval 1 45 v1 rfl rfl) h1
  clear hA0 hval0
  refine (tableS_walk name0 mem0 frame0 l0 A0 c0 l1 A1 c1 W hR0 hR1 (Nat.le_trans hlc0 hcm0) (Nat.le_trans hlc1 hcm1)).mono fun e W' ⟨he, hg⟩ => ?_
  subst he
  refine ⟨_, rfl, law_post (tb := 4) laid ?_ ?_ Try.underlying4 rfl hW' ⟨rfl, rfl, rfl⟩ hg⟩
  · rw [Try.params11]; intro t ht; simp at ht; rcases ht with rfl | rfl <;> exact ⟨by kernel_rfl, of_decide_eq_true (by kernel_rfl)⟩
  · kernel_rfl

theorem windowTable_holds : Rows.WindowTableSaid :=
  OpenClaim.holds_of_wide 11 Try.f11 rfl rfl rfl rfl rfl rfl rfl ⟨rfl, rfl, rfl, rfl, rfl⟩ rfl rfl rfl rfl rfl (by kernel_rfl) Try.func11 (by kernel_rfl)
    (of_decide_eq_true (by kernel_rfl)) (by unfold Func.isWrapper; first | (rw [if_pos (by decide +kernel)]; kernel_rfl) | (rw [if_neg (by decide +kernel)]; exact ⟨rfl, rfl⟩))
    (fun os started H enc _ => windowTable_lifted os started H enc)
#print axioms windowTable_holds
end Go.Proofs.Ytlmbffnmjfbglaa
