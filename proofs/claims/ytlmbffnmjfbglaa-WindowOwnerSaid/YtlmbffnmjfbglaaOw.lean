/- WindowOwner: for any module and offsets, the statement's call returns true and leaves its arguments alone. -/
import Derived.Test.YtlmbffnmjfbglaaC0
import Derived.Test.YtlmbffnmjfbglaaX4
namespace Go.Proofs.Ytlmbffnmjfbglaa
open Go.ChangeShapes Go.WideShapes Go.ChangeAt Go.RowKit

/-- the module's box, the table, and the row of what each partition owns. -/
structure OB (w : World) (name : ByteArray) (mem F : Int) (A : Option Addr) (n c : Nat) (A2 : Option Addr) (l : List Win) (Bo : Nat) (ow : List Int) (W : World) : Prop where
  bm : Blk W w.heap.size 44 #[.string name, .int .i64 mem, .int .i64 F, .slice A n c]
  rd : RdG Win.tri W Bo A2 l
  bo : Blk W Bo 3 (ow.map (Value.int .i64)).toArray
  hb : Below w.heap.size w W
  lo : w.heap.size < Bo
section
variable {w : World} {name : ByteArray} {mem F : Int} {A : Option Addr} {n c : Nat} {A2 : Option Addr} {l : List Win} {Bo : Nat} {ow : List Int} {W W' : World}
theorem OB.next (h : OB w name mem F A n c A2 l Bo ow W) (hb : Below W.heap.size W W') : OB w name mem F A n c A2 l Bo ow W' :=
  ⟨h.bm.below hb h.bm.lt, h.rd.keep (hb.mono (Nat.le_of_lt h.bo.lt)), h.bo.below hb h.bo.lt, h.hb.trans (hb.mono h.hb.size), h.lo⟩
theorem OB.drewN (h : OB w name mem F A n c A2 l Bo ow W) (k : Nat) : OB w name mem F A n c A2 l Bo ow (W.drewN k) := h.next (below_drewN (Below.refl _ _) k)
theorem OB.rdW (h : OB w name mem F A n c A2 l Bo ow W) : RdG Win.tri W W.heap.size A2 l := h.rd.more (Nat.le_of_lt h.bo.lt)
theorem OB.cell (h : OB w name mem F A n c A2 l Bo ow W) (i : Nat) (hi : i < ow.length) : W.cell? ⟨Bo, i, none⟩ = some (.int .i64 ow[i]) := by
  rw [h.bo.cell i]; simp [hi]
theorem OB.set (h : OB w name mem F A n c A2 l Bo ow W) (i : Nat) (v : Int) : OB w name mem F A n c A2 l Bo (ow.set i v) (W.setCell ⟨Bo, i, none⟩ (.int .i64 v)) := by
  have hlo := h.lo
  refine ⟨h.bm.far (p := ⟨Bo, i, none⟩) (by simp; omega) _, h.rd.keep ((Below.refl _ _).setCell (p := ⟨Bo, i, none⟩) (Nat.le_refl _) _), ?_, h.hb.setCell (p := ⟨Bo, i, none⟩) (by simp; omega) _, hlo⟩
  have := h.bo.set_ i (.int .i64 v)
  have e : ((ow.map (Value.int .i64)).toArray).setIfInBounds i (.int .i64 v) = ((ow.set i v).map (Value.int .i64)).toArray := by
    simp [List.map_set]
  rw [e] at this
  exact this
end
theorem make_zero (n : Nat) (w : World) : Blk (w.alloc (.cells (madeCells #[Value.int .i64 0] n) 3)) w.heap.size 3 ((List.replicate n (0 : Int)).map (Value.int .i64)).toArray := by
  have e : madeCells #[Value.int .i64 0] n = ((List.replicate n (0 : Int)).map (Value.int .i64)).toArray := by
    refine Array.ext (by simp [madeCells]) fun i h1 h2 => ?_
    simp [madeCells, Nat.mod_one]
  rw [← e]
  exact Blk.new _ _ _

theorem info3 : (Try.prog.info? 3).map (fun i => (i.zero, i.size, i.bytes)) = some (some (.int .i64 0), 1, 8) := by kernel_rfl

set_option maxRecDepth 100000 in
set_option maxHeartbeats 4000000 in
theorem owner_walk (name : ByteArray) (mem F : Int) (ps : List Part) (A : Option Addr) (c : Nat) (os : List Int) (A' : Option Addr) (c' : Nat) (w : World) (h : RdPart w w.heap.size A ps) (h' : RdInt w w.heap.size A' os) (hl : ps.length ≤ 9223372036854775807) (hl' : os.length ≤ 9223372036854775807) :
    Calls Try.prog 8 #[.agg #[.string name, .int .i64 mem, .int .i64 F, .slice A ps.length c], .slice A' os.length c'] w fun e w' => e = .returned (.bool true) ∧ Below w.heap.size w w' := by
  have haw := fun W => awake_c W
  have hB : Below w.heap.size w (w.alloc (.cells #[.string name, .int .i64 mem, .int .i64 F, .slice A ps.length c] 44)) := (Below.refl _ w).alloc (Nat.le_refl _) _
  have hblk := Blk.new w 44 #[.string name, .int .i64 mem, .int .i64 F, .slice A ps.length c]
  go_enter Try.func8, Try.ntmps8
  go_wp2_with fail
  generalize w.alloc (.cells #[.string name, .int .i64 mem, .int .i64 F, .slice A ps.length c] 44) = W0 at hB hblk ⊢
  refine (haw W0).mono ?_
  rintro e W1 ⟨rfl, hb1⟩
  have hB1 := hB.trans (hb1.mono hB.size)
  have hk1 := hblk.below hb1 hblk.lt
  clear haw hB hblk hb1
  have q0 : W1.cell? ⟨w.heap.size, 0, none⟩ = some (.string name) := hk1.cell 0
  have q1 : W1.cell? ⟨w.heap.size, 1, none⟩ = some (.int .i64 mem) := hk1.cell 1
  have q2 : W1.cell? ⟨w.heap.size, 2, none⟩ = some (.int .i64 F) := hk1.cell 2
  have q3 : W1.cell? ⟨w.heap.size, 3, none⟩ = some (.slice A ps.length c) := hk1.cell 3
  have ht := table_c name mem F ps A c os A' c' W1 ((h.keep hB1).more hB1.size) ((h'.keep hB1).more hB1.size) hl hl'
  go_wp2_with fail
  refine ht.mono ?_
  rintro e W2 ⟨A2, c2, q, rfl, hq, hrd, hb2⟩
  have hB2 := hB1.trans (hb2.mono hB1.size)
  have hk2 := hk1.below hb2 hk1.lt
  clear ht hB1 hk1 hb2 q0 q1 q2 q3
  by_cases hq0 : q.2 = 0
  case neg =>
    have hne : (q.2 != 0) = true := by simpa using hq0
    obtain ⟨q1, q2⟩ := q
    simp only at *
    clear hq hrd hk2 hq0 h h'
    go_wp2
    go_ret
    exact ⟨rfl, hB2⟩
  obtain ⟨hs0, hnc, hT⟩ : (slotsV F ps os).2 = 0 ∧ NoClash (slotsV F ps os).1 ∧ TableOk F (slotsV F ps os).1 q.1 := by
    rcases hq with ⟨h1, h2⟩ | ⟨_, _, h2⟩ | ⟨h1, h2, _, h4⟩
    · rw [h2] at hq0; exact absurd hq0 h1
    · rw [h2] at hq0; simp at hq0
    · exact ⟨h1, h2, h4⟩
  have hS := slotsV_ok hs0
  generalize (slotsV F ps os).1 = sl at *
  clear hs0 hq
  obtain ⟨l, e2⟩ := q
  simp only at *
  subst hq0
  obtain ⟨hF1, hF2⟩ := hS.frame
  have hslen := hS.len
  have hfew := hS.few
  have hll : l.length ≤ 9223372036854775807 := by
    have h1 := hT.perm.length_eq
    have h2 := winsTo_len hS.ok hF2 sl.length (Nat.le_refl _)
    unfold winsOf at h1
    omega
  have Hlen := Lib.hid hslen
  have hp6 : ps.length ≤ 6 := by omega
  clear hslen h'
  have how := fun (t : Int) W hW => owner_c l A2 c2 F t W hW hll
  have q2 : W2.cell? ⟨w.heap.size, 2, none⟩ = some (.int .i64 F) := hk2.cell 2
  have q3 : W2.cell? ⟨w.heap.size, 3, none⟩ = some (.slice A ps.length c) := hk2.cell 3
  obtain ⟨i0, hi0, hz0, hz1, hz2⟩ := info_parts info3
  have hmk : (Instr.makeSlice 45 (.int .i64 (ps.length : Int)) (.int .i64 (ps.length : Int))).run Try.prog W2 = .ok (.slice (some ⟨W2.heap.size, 0, none⟩) ps.length ps.length) (W2.alloc (.cells (madeCells #[.int .i64 0] ps.length) 3)) := by
    have e := run_make_rowN (P := Try.prog) 45 3 i0 _ Try.underlying45 hi0 hz0 .i64 .i64 ps.length ps.length (by omega) (by rw [hz2]; omega) (by omega) W2
    rw [hz1] at e
    simpa [Value.cells] using e
  have hO : OB w name mem F A ps.length c A2 l W2.heap.size (ownedTo sl 0) (W2.alloc (.cells (madeCells #[.int .i64 0] ps.length) 3)) := by
    refine ⟨hk2.alloc _, hrd.keep ((Below.refl _ _).alloc (Nat.le_refl _) _), ?_, hB2.alloc hB2.size _, hk2.lt⟩
    rw [ownedTo_zero hS, Hlen.out]
    exact make_zero _ _
  clear hi0 hz0 hz1 hz2 hrd
  go_wp2_with fail
  refine nameW fun W3 hW3 => ?_
  rw [← hW3] at hO
  clear hW3 hmk q2 q3 hk2 hB2
  generalize W2.heap.size = Bo at hO ⊢
  have HS := Lib.hid hS
  have HT := Lib.hid hT
  have HN := Lib.hid hnc
  clear hS hT hnc
  go_loopw [8] (fun v wr => ∃ m : Nat, (m : Int) ≤ F ∧ v = .int .i64 m ∧ OB w name mem F A ps.length c A2 l Bo (ownedTo sl m) wr) (fun v _ => (F - intOf v).toNat)
  case atStart => exact ⟨0, by omega, rfl, hO⟩
  case round =>
    clear hO
    obtain ⟨m, hm, rfl, hO⟩ := hrel
    have q2 : wr.cell? ⟨w.heap.size, 2, none⟩ = some (.int .i64 F) := hO.bm.cell 2
    by_cases hmF : (m : Int) < F
    · have hm0 : (0 : Int) ≤ (m : Int) := by omega
      go_wp2_with fail
      clear q2
      obtain ⟨wo, hwo⟩ : ∃ wo : World, wo = wr := ⟨_, rfl⟩
      subst hwo
      go_loopw [9, 10, 11] (fun va vb i wr => ∃ (k : Nat) (na nb : Int), k ≤ l.length ∧ i = .int .i64 k ∧ va = .int .i64 na ∧ vb = .int .i64 nb ∧ 0 ≤ na ∧ na ≤ k ∧ Hid (cntTo m l k = (na, nb)) ∧ OB w name mem F A ps.length c A2 l Bo (ownedTo sl m) wr) (fun _ _ i _ => l.length - (intOf i).toNat)
      case atStart => exact ⟨0, 0, 0, Nat.zero_le _, rfl, rfl, rfl, by omega, by omega, rfl, hO⟩
      case round =>
        clear hO
        obtain ⟨k, na, nb, hk, rfl, rfl, rfl, hn0, hn1, Hc, hO⟩ := hrel
        by_cases hlt : k < l.length
        · obtain ⟨b, o, rfl, hb, hcc⟩ := hO.rd (by omega)
          obtain ⟨c0, c1, c2⟩ := hcc k hlt
          change _ = some (Value.int .i64 l[k].part) at c0
          change _ = some (Value.int .i64 l[k].start) at c1
          change _ = some (Value.int .i64 l[k].len) at c2
          obtain ⟨x0, x1, x2, x3, _⟩ := tab_in HS.out HT.out (List.getElem_mem hlt)
          have hcs := cntTo_succ m l k hlt
          rw [Hc.out] at hcs
          have Hcs := Lib.hid hcs
          have hi0 : (0 : Int) ≤ (k : Int) := by omega
          have hi1 : (k : Int) < (l.length : Int) := by omega
          have hdef : inW m l[k] = (decide (l[k].start ≤ m) && decide ((m : Int) < l[k].start + l[k].len)) := rfl
          have Hdef := Lib.hid hdef
          have mm := IntWalk.i64_in (l[k].start + l[k].len) (by omega)
          clear hcc hcs hdef
          generalize l[k] = x at *
          obtain ⟨xp, xs, xn⟩ := x
          simp only at *
          have hkl : k ≤ 9223372036854775806 := by omega
          by_cases t1 : xs ≤ (m : Int)
          · by_cases t2 : (m : Int) < xs + xn
            · have He : Hid (cntTo m l (k + 1) = (na + 1, xp)) := by
                show _ = _
                rw [Hcs.out]
                simp [cntStep, Hdef.out, t1, t2]
              clear Hcs Hdef
              go_wp2_with fail
              go_quiet (fail)
              go_wp2
              go_roundw
              case rel => exact ⟨k + 1, na + 1, xp, by omega, by go_num, by go_num, by go_num, by omega, by omega, He, hO.drewN _⟩
              case measure => simp [intOf]; omega
            · have He : Hid (cntTo m l (k + 1) = (na, nb)) := by
                show _ = _
                rw [Hcs.out]
                simp [cntStep, Hdef.out, t1, t2]
              clear Hcs Hdef
              go_wp2_with fail
              go_quiet (fail)
              go_wp2
              go_roundw
              case rel => exact ⟨k + 1, na, nb, by omega, by go_num, by go_num, by go_num, by omega, by omega, He, hO.drewN _⟩
              case measure => simp [intOf]; omega
          · have He : Hid (cntTo m l (k + 1) = (na, nb)) := by
              show _ = _
              rw [Hcs.out]
              simp [cntStep, Hdef.out, t1]
            have d1 : decide (xs ≤ (m : Int)) = false := decide_eq_false t1
            clear Hcs Hdef
            go_wp2_with fail
            go_quiet (fail)
            go_wp2
            go_roundw
            case rel => exact ⟨k + 1, na, nb, by omega, by go_num, by go_num, by go_num, by omega, by omega, He, hO.drewN _⟩
            case measure => simp [intOf]; omega
        · obtain rfl : k = l.length := by omega
          have hom := fun W hW => how m W hW
          have q2 : wr.cell? ⟨w.heap.size, 2, none⟩ = some (.int .i64 F) := hO.bm.cell 2
          have t5 : decide (1 < (1 : Int)) = false := rfl
          rcases tick HS.out HN.out HT.out hm0 hmF with ⟨i, T⟩ | T
          · obtain ⟨rfl, rfl⟩ : na = 1 ∧ nb = (i : Int) := by
              have := T.cnt
              rw [Hc.out] at this
              injection this with e1 e2
              exact ⟨e1, e2⟩
            rw [T.own] at hom
            have hil : i < sl.length := T.lt
            have hbd := opn_bd (HS.out.ok _ (List.getElem_mem hil)) m
            have hnx := Lib.hid (ownedTo_of HS.out hm0 T)
            have hi0 : (0 : Int) ≤ (i : Int) := by omega
            have hi1 : (i : Int) < (ps.length : Int) := by have := Hlen.out; omega
            have t1 : ((i : Int) != (i : Int)) = false := by simp
            clear Hc hn0 hn1
            go_wp2_with fail
            refine (hom wr hO.rdW).mono ?_
            rintro e W4 ⟨rfl, hb4⟩
            have hO4 := hO.next hb4
            clear hom hO hb4 q2
            have hcell : W4.cell? ⟨Bo, i, none⟩ = some (.int .i64 (opn sl[i] m)) := by
              have := hO4.cell i (by rw [ownedTo_len]; omega)
              rw [ownedTo_get] at this
              exact this
            have hfz := hO4.bo.frozen i
            have hs2 := hO4.set i (opn sl[i] m + 1)
            rw [← hnx.out] at hs2
            clear hnx hO4
            have ho0 : opn sl[i] m ≤ 3000 := by omega
            have ho1 := hbd.1
            clear hbd
            generalize opn sl[i] m = v at *
            go_wp2
            go_roundw
            case rel => exact ⟨m + 1, by omega, by go_num, hs2⟩
            case measure => simp [intOf]; omega
          · obtain ⟨rfl, rfl⟩ : na = 0 ∧ nb = 0 := by
              have := T.cnt
              rw [Hc.out] at this
              injection this with e1 e2
              exact ⟨e1, e2⟩
            rw [T.own] at hom
            have hnx := Lib.hid (ownedTo_none HS.out hm0 T)
            clear Hc T hn0 hn1
            go_wp2_with fail
            refine (hom wr hO.rdW).mono ?_
            rintro e W4 ⟨rfl, hb4⟩
            have hO4 := hO.next hb4
            rw [← hnx.out] at hO4
            clear hom hO hb4 q2 hnx
            go_wp2
            go_roundw
            case rel => exact ⟨m + 1, by omega, by go_num, hO4⟩
            case measure => simp [intOf]; omega
    · obtain hmF2 : (m : Int) = F := by omega
      rw [hmF2] at hO
      go_wp2_with fail
      clear q2
      obtain ⟨wo, hwo⟩ : ∃ wo : World, wo = wr := ⟨_, rfl⟩
      subst hwo
      go_loopw [14] (fun i wr => ∃ k : Nat, k ≤ ps.length ∧ i = .int .i64 k ∧ OB w name mem F A ps.length c A2 l Bo (ownedTo sl F) wr) (fun i _ => ps.length - (intOf i).toNat)
      case atStart => exact ⟨0, Nat.zero_le _, rfl, hO⟩
      case round =>
        clear hO
        obtain ⟨k, hk, rfl, hO⟩ := hrel
        by_cases hlt : k < ps.length
        · obtain ⟨b, o, rfl, hb, hcp⟩ := h.keep hO.hb (by omega)
          have q2 : wr.cell? ⟨w.heap.size, 2, none⟩ = some (.int .i64 F) := hO.bm.cell 2
          have q3 : wr.cell? ⟨w.heap.size, 3, none⟩ = some (.slice (some ⟨b, o, none⟩) ps.length c) := hO.bm.cell 3
          have p1 : wr.cell? ⟨b, o + k * 10 + 1, none⟩ = some (.int .i64 ps[k].period) := hcp k hlt 1 _ rfl
          have p2 : wr.cell? ⟨b, o + k * 10 + 2, none⟩ = some (.int .i64 ps[k].length) := hcp k hlt 2 _ rfl
          have hks : k < sl.length := by have := Hlen.out; omega
          have hok := HS.out.ok _ (List.getElem_mem hks)
          have hdv := HS.out.div _ (List.getElem_mem hks)
          have hcell : wr.cell? ⟨Bo, k, none⟩ = some (.int .i64 (F / sl[k].per * sl[k].len)) := by
            have := hO.cell k (by rw [ownedTo_len]; exact hks)
            rw [ownedTo_get, opn_frame hok hdv] at this
            exact this
          have hz : sl[k].per = ps[k].period ∧ sl[k].len = ps[k].length := by
            have e2 := HS.out.zip
            have h3 := HS.out.olen
            have : sl[k] = (zipS os ps)[k]'(by rw [← e2]; exact hks) := by simp only [← e2]
            rw [this, zipS_get os ps k (by rw [← e2]; exact hks) (by omega) (by omega)]
            exact ⟨rfl, rfl⟩
          rw [hz.1, hz.2] at hcell
          obtain ⟨a1, a2, a3, a4, a5, a6⟩ := hok
          rw [hz.1] at a1 a2 a4
          rw [hz.2] at a3 a4
          have hi0 : (0 : Int) ≤ (k : Int) := by omega
          have hi1 : (k : Int) < (ps.length : Int) := by omega
          have hb' := hO.hb.size
          clear hz hdv hcp a5 a6
          generalize ps[k].period = P at *
          generalize ps[k].length = L at *
          have hP0 : P ≠ 0 := by omega
          have m0 : F.tdiv P = F / P := Int.tdiv_eq_ediv_of_nonneg (by omega)
          have hq0 : 0 ≤ F / P := Int.ediv_nonneg (by omega) (by omega)
          have hq1 : F / P ≤ F := Int.ediv_le_self P (by omega)
          have hm1 : 0 ≤ F / P * L := Int.mul_nonneg hq0 (by omega)
          have hm2 : F / P * L ≤ 2000 * 2000 := Int.mul_le_mul (by omega) (by omega) (by omega) (by omega)
          have m1 := IntWalk.i64_in (F / P) (by omega)
          have m2 := IntWalk.i64_in (F / P * L) (by omega)
          have t1 : (F / P * L != F / P * L) = false := by simp
          go_wp2_with fail
          go_quiet (fail)
          clear m0 m1 m2 t1 hcell p1 p2
          go_wp2
          go_roundw
          case rel => exact ⟨k + 1, by omega, by go_num, hO.drewN _⟩
          case measure => simp [intOf]; omega
        · have hBf := hO.hb
          go_wp2
          go_ret
          exact ⟨rfl, hBf⟩

-- THE ROW
set_option maxRecDepth 100000 in
theorem windowOwner_lifted (os : Os) (started : os.Started) (H : Type) (enc : TypeId × Value → H) :
    ReturnsInHanded {} Try.checked os 8 .any (Rows.windowOwnerSpec.pre6 enc Try.prog Try.f8 Rows.windowOwnerRow.domain false) (Rows.windowOwnerSpec.post enc Try.prog Try.f8 false true false false) := by
  refine returnsInHanded_of_change (C := Try.checked) own started (by kernel_rfl) Try.func8
    (ChangeSpec.witness6 (enc := enc) (C := Try.checked) false ⟨#[], #[.agg #[.string ⟨#[]⟩, .int .i64 0, .int .i64 0, .slice none 0 0], .slice none 0 0], []⟩ 8 (by kernel_rfl) (by kernel_rfl) (by kernel_rfl) (by kernel_rfl)) ?_
  intro W base args ds gs before hval0 hW hcnd _
  have hval : ∀ (j : Nat) t v, Try.f8.params[j]? = some t → args[j]? = some v → Value.okWide Try.prog W .any base t v := hval0
  have hW' := hW
  obtain ⟨p, q, hA0, hV, rfl, hfz, hnd⟩ := hW
  have hA : DataW.TrodAll enc Try.prog W 0 (fun _ => true) true Try.f8.params.toList args.toList ds p := hA0
  rw [Try.params8] at hA hval
  obtain ⟨v0, vs0, d0, ds0, p0, q0, hargs, rfl, rfl, h0, r0⟩ := trodAll_cons hA
  obtain ⟨v1, vs1, d1, ds1, p1, q1, rfl, rfl, rfl, h1, r1⟩ := trodAll_cons r0
  obtain ⟨rfl, rfl, rfl⟩ := trodAll_nil r1
  obtain rfl : args = #[v0, v1] := by cases args; simp_all
  obtain ⟨name0, mem0, frame0, A0, c0, l0, rfl, km0, kf0, hlc0, hcm0, hR0, hP0⟩ := open_module (hval 0 44 v0 rfl rfl) h0
  obtain ⟨A1, c1, l1, rfl, hlc1, hcm1, hR1, hP1⟩ := open_ints1 (hval 1 45 v1 rfl rfl) h1
  clear hA0 hval0
  refine (owner_walk name0 mem0 frame0 l0 A0 c0 l1 A1 c1 W hR0 hR1 (Nat.le_trans hlc0 hcm0) (Nat.le_trans hlc1 hcm1)).mono fun e W' ⟨he, hg⟩ => ?_
  subst he
  refine ⟨_, rfl, law_post (tb := 4) laid ?_ ?_ Try.underlying4 rfl hW' ⟨rfl, rfl, rfl⟩ hg⟩
  · rw [Try.params8]; intro t ht; simp at ht; rcases ht with rfl | rfl <;> exact ⟨by kernel_rfl, of_decide_eq_true (by kernel_rfl)⟩
  · kernel_rfl

theorem windowOwner_holds : Rows.WindowOwnerSaid :=
  OpenClaim.holds_of_wide 8 Try.f8 rfl rfl rfl rfl rfl rfl rfl ⟨rfl, rfl, rfl, rfl, rfl⟩ rfl rfl rfl rfl rfl (by kernel_rfl) Try.func8 (by kernel_rfl)
    (of_decide_eq_true (by kernel_rfl)) (by unfold Func.isWrapper; first | (rw [if_pos (by decide +kernel)]; kernel_rfl) | (rw [if_neg (by decide +kernel)]; exact ⟨rfl, rfl⟩))
    (fun os started H enc _ => windowOwner_lifted os started H enc)
#print axioms windowOwner_holds
end Go.Proofs.Ytlmbffnmjfbglaa
