/- prefix, Conflict, Fits. -/
import Derived.Test.YtlmbffnmjfbglabP8
set_option linter.unusedSimpArgs false
set_option linter.unusedVariables false
namespace Go.Proofs.Ytlmbffnmjfbglab
open Go.ChangeShapes Go.WideShapes Go.ChangeAt Go.RowKit

/-- the greatest offset of a partition. -/
def lastP (ps : List Part) (k : Nat) : Int := (ps.getD k default).period - (ps.getD k default).length
/-- offset k is possible. -/
def offOk (ps : List Part) (os : List Int) (k : Nat) : Bool := decide (0 ≤ os.getD k 0) && decide (os.getD k 0 ≤ lastP ps k)
def prefixOk (F : Int) (ps : List Part) (os : List Int) : Bool := decide (os.length ≤ ps.length) && (timesV F ps && (List.range os.length).all fun k => offOk ps os k)
theorem prefixOk_no {F : Int} {ps : List Part} {os : List Int} {k : Nat} (hk : k < os.length) (h : offOk ps os k = false) : prefixOk F ps os = false := by
  unfold prefixOk
  rw [show (List.range os.length).all (fun k => offOk ps os k) = false by
    rw [List.all_eq_false]; exact ⟨k, by simpa using hk, by simp [h]⟩]
  simp

theorem ret_pb {p : Addr} {a b : Bool} (h : a = b) : Ending.returned (.tuple #[.pointer (some p), .bool a]) = .returned (.tuple #[.pointer (some p), .bool b]) := by rw [h]

set_option maxRecDepth 100000 in
set_option maxHeartbeats 2000000 in
theorem prefix_c (name : ByteArray) (mem F : Int) (ps : List Part) (A : Option Addr) (c : Nat) (os : List Int) (Ao : Option Addr) (co : Nat) (w : World) (h : RdPart w w.heap.size A ps) (ho : RdInt w w.heap.size Ao os) (hcap : os.length ≤ co) (hl : ps.length * 8 ≤ 140737488355328) (hlo : os.length ≤ 9223372036854775807) :
    Calls Try.prog 40 #[.agg #[.string name, .int .i64 mem, .int .i64 F, .slice A ps.length c], .slice Ao os.length co] w fun e w' => ∃ Bs, e = .returned (.tuple #[.pointer (some ⟨Bs, 0, none⟩), .bool (prefixOk F ps os)]) ∧ w.heap.size ≤ Bs ∧ SB w' Bs name mem F A ps c Ao os co 0 ∧ Below w.heap.size w w' := by
  obtain ⟨W1, hW1⟩ : ∃ W1, W1 = (w.alloc (.cells #[.string name, .int .i64 mem, .int .i64 F, .slice A ps.length c] 24)).alloc (.cells #[.string name, .int .i64 mem, .int .i64 F, .slice A ps.length c, .slice Ao os.length co, .int .i64 0] 67) := ⟨_, rfl⟩
  have hB : Below w.heap.size w W1 := by rw [hW1]; exact ((Below.refl _ w).alloc (Nat.le_refl _) _).alloc (by simp) _
  have hb0 : Blk W1 w.heap.size 24 #[.string name, .int .i64 mem, .int .i64 F, .slice A ps.length c] := by rw [hW1]; exact (Blk.new w 24 _).alloc _
  have hSB : SB W1 (w.heap.size + 1) name mem F A ps c Ao os co 0 := by
    refine ⟨?_, h.below hB, ho.below hB, fun b o e hn => ?_, hcap⟩
    · rw [hW1]
      have := Blk.new (w.alloc (.cells #[.string name, .int .i64 mem, .int .i64 F, .slice A ps.length c] 24)) 67 #[.string name, .int .i64 mem, .int .i64 F, .slice A ps.length c, .slice Ao os.length co, .int .i64 0]
      simpa only [World.size_alloc] using this
    · obtain ⟨b', o', e', hb, _⟩ := ho hn
      rw [e] at e'; cases e'
      omega
  have hpt := ptimes_c name mem F ps A c W1 (h.below hB) hl
  rw [ptimes_iff] at hpt
  have q0 : W1.cell? ⟨w.heap.size, 0, none⟩ = some (.string name) := hb0.cell 0
  have q1 : W1.cell? ⟨w.heap.size, 1, none⟩ = some (.int .i64 mem) := hb0.cell 1
  have q2 : W1.cell? ⟨w.heap.size, 2, none⟩ = some (.int .i64 F) := hb0.cell 2
  have q3 : W1.cell? ⟨w.heap.size, 3, none⟩ = some (.slice A ps.length c) := hb0.cell 3
  have HSB := Lib.hid hSB
  have HB := Lib.hid hB
  clear hSB hb0
  by_cases hlen : os.length ≤ ps.length
  · have hd : decide ((os.length : Int) > (ps.length : Int)) = false := by simp; omega
    have hd2 : ¬ ((ps.length : Int) < (os.length : Int)) := by omega
    cases ht : timesV F ps with
    | false =>
      rw [ht] at hpt
      have Hv := Lib.hid (show prefixOk F ps os = false by simp [prefixOk, ht])
      clear h ho hB
      rw [hW1] at hpt q0 q1 q2 q3
      go_enter Try.func40, Try.ntmps40
      go_wp2_with fail
      refine hpt.mono ?_
      rintro e W2 ⟨rfl, hb⟩
      rw [← hW1] at hb
      have hS2 := HSB.out.next hb
      have hB2 := HB.out.trans (hb.mono HB.out.size)
      clear hpt hW1 q0 q1 q2 q3 hb
      go_wp2_with fail
      refine bodyPost_ret (v := .tuple #[.pointer (some ⟨w.heap.size + 1, 0, none⟩), .bool false]) (by simp [results, Try.results40, go_sem]) rfl ⟨w.heap.size + 1, ret_pb Hv.out.symm, by omega, hS2, hB2⟩
    | true =>
      rw [ht] at hpt
      have hT := timesV_ok ht
      have HT := Lib.hid hT
      clear h ho hB
      rw [hW1] at hpt q0 q1 q2 q3
      have Ht := Lib.hid ht
      have Hlen := Lib.hid hlen
      clear ht hT hlen
      go_enter Try.func40, Try.ntmps40
      go_wp2_with fail
      refine hpt.mono ?_
      rintro e W2 ⟨rfl, hb⟩
      rw [← hW1] at hb
      have hS2 := HSB.out.next hb
      have hB2 := HB.out.trans (hb.mono HB.out.size)
      clear hpt hW1 q0 q1 q2 q3 hb
      have hzb : w.heap.size ≤ w.heap.size + 1 := by omega
      generalize w.heap.size + 1 = Bs at *
      go_wp2_with fail
      go_loopw [27] (fun i wr => ∃ k : Nat, k ≤ os.length ∧ i = .int .i64 k ∧ Below w.heap.size w wr ∧ Hid (SB wr Bs name mem F A ps c Ao os co 0) ∧ Hid (∀ j, j < k → offOk ps os j = true)) (fun i _ => os.length - (intOf i).toNat)
      case atStart => exact ⟨0, Nat.zero_le _, rfl, hB2, hS2, fun j h => absurd h (by omega)⟩
      case round =>
        obtain ⟨k, hk, rfl, hBr, hSr, hall⟩ := hrel
        clear hB2 hS2
        by_cases hlt : k < os.length
        · obtain ⟨b, o, rfl, hb, hc⟩ := hSr.out.of (by omega)
          have c0 := hc k hlt
          have hi0 : (0 : Int) ≤ (k : Int) := by omega
          have hi1 : (k : Int) < (os.length : Int) := by omega
          have hkp : k < ps.length := by have := Hlen.out; omega
          have hper := HT.out.per ps[k] (List.getElem_mem _)
          have hlen' := HT.out.len ps[k] (List.getElem_mem _)
          have hla := last_c hSr.out k hkp (by omega) (by omega) (by omega) (by omega)
          have hlp : lastP ps k = ps[k].period - ps[k].length := by simp [lastP, hkp]
          have hok : offOk ps os k = (decide (0 ≤ os[k]) && decide (os[k] ≤ ps[k].period - ps[k].length)) := by simp [offOk, hlp, hlt]
          have hno : offOk ps os k = false → prefixOk F ps os = false := prefixOk_no hlt
          have hnx : offOk ps os k = true → ∀ j, j < k + 1 → offOk ps os j = true := fun hq j hj => by
            by_cases e : j = k
            · subst e; exact hq
            · exact hall.out j (by omega)
          rw [hok] at hno hnx
          clear hc hall hper hlen' hlp hok
          generalize ps[k].period - ps[k].length = la at *
          generalize os[k] = x at *
          by_cases hx : x < 0
          · have hxd : decide (x < 0) = true := decide_eq_true hx
            have Hno := Lib.hid (hno (by simp; omega))
            clear hno hnx hla
            go_wp2_with fail
            refine bodyPost_ret (v := .tuple #[.pointer (some ⟨Bs, 0, none⟩), .bool false]) (by simp [results, Try.results40, go_sem]) rfl ⟨Bs, ret_pb Hno.out.symm, hzb, hSr.out, hBr⟩
          · have hxd : decide (x < 0) = false := decide_eq_false hx
            by_cases hg : la < x
            · have hgd : decide (x > la) = true := decide_eq_true hg
              have Hno := Lib.hid (hno (by simp; omega))
              clear hno hnx
              go_wp2_with fail
              refine hla.mono ?_
              rintro e w3 ⟨rfl, nq, rfl⟩
              have hS3 := hSr.out.next (below_drewN (Below.refl _ _) nq)
              have hB3 := below_drewN hBr nq
              clear hla c0
              go_wp2_with fail
              refine bodyPost_ret (v := .tuple #[.pointer (some ⟨Bs, 0, none⟩), .bool false]) (by simp [results, Try.results40, go_sem]) rfl ⟨Bs, ret_pb Hno.out.symm, hzb, hS3, hB3⟩
            · have hgd : decide (x > la) = false := decide_eq_false hg
              have Hnx := Lib.hid (hnx (by simp; omega))
              clear hno hnx
              go_wp2_with fail
              refine hla.mono ?_
              rintro e w3 ⟨rfl, nq, rfl⟩
              have hS3 := hSr.out.next (below_drewN (Below.refl _ _) nq)
              have hB3 := below_drewN hBr nq
              clear hla c0
              go_wp2_with fail
              go_roundw
              case rel => exact ⟨k + 1, by omega, by go_num, hB3, hS3, Hnx.out⟩
              case measure => simp [intOf]; omega
        · have Hyes := Lib.hid (show prefixOk F ps os = true by
            have h1 := Hlen.out
            have h2 := Ht.out
            simp only [prefixOk, h2, Bool.true_and, Bool.and_eq_true, decide_eq_true_eq, List.all_eq_true, List.mem_range]
            exact ⟨h1, fun j hj => hall.out j (by omega)⟩)
          have hSr := hSr.out
          have HS := Lib.hid hSr
          clear hall hSr
          go_wp2_with fail
          refine bodyPost_ret (v := .tuple #[.pointer (some ⟨Bs, 0, none⟩), .bool true]) (by simp [results, Try.results40, go_sem]) rfl ⟨Bs, ret_pb Hyes.out.symm, hzb, HS.out, hBr⟩
  · have hd : decide ((os.length : Int) > (ps.length : Int)) = true := by simp; omega
    have hd2 : ((ps.length : Int) < (os.length : Int)) := by omega
    have Hv := Lib.hid (show prefixOk F ps os = false by simp [prefixOk, hlen])
    clear h ho hB hpt hlen
    rw [hW1] at q0 q1 q2 q3
    go_enter Try.func40, Try.ntmps40
    go_wp2_with fail
    refine bodyPost_ret (v := .tuple #[.pointer (some ⟨w.heap.size + 1, 0, none⟩), .bool false]) (by simp [results, Try.results40, go_sem]) rfl ⟨w.heap.size + 1, ret_pb Hv.out.symm, by omega, hW1 ▸ HSB.out, hW1 ▸ HB.out⟩
end Go.Proofs.Ytlmbffnmjfbglab
