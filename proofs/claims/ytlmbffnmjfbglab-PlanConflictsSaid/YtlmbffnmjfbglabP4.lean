/- The iterator over the possible offsets. -/
import Derived.Test.YtlmbffnmjfbglabP2
import Derived.Test.YtlmbffnmjfbglabP3
import Derived.Test.YtlmbffnmjfbglabwW5
namespace Go.Proofs.Ytlmbffnmjfbglab
open Go.ChangeShapes Go.WideShapes Go.ChangeAt Go.RowKit

attribute [local go_sem] Oper.semAt_some

/-- the search object, whatever its offsets' slice is. -/
def SBx (W : World) (Bs : Nat) (name : ByteArray) (mem F : Int) (A : Option Addr) (ps : List Part) (c : Nat) (os : List Int) (t : Int) : Prop := ∃ Ao co, SB W Bs name mem F A ps c Ao os co t
theorem SBx.next {W W' : World} {Bs : Nat} {name : ByteArray} {mem F : Int} {A : Option Addr} {ps : List Part} {c : Nat} {os : List Int} {t : Int} (h : SBx W Bs name mem F A ps c os t) (hb : Below W.heap.size W W') : SBx W' Bs name mem F A ps c os t := by
  obtain ⟨Ao, co, h⟩ := h; exact ⟨Ao, co, h.next hb⟩
/-- the search object with one try more. -/
theorem SB.try1 {W : World} {Bs : Nat} {name : ByteArray} {mem F : Int} {A : Option Addr} {ps : List Part} {c : Nat} {Ao : Option Addr} {os : List Int} {co : Nat} {t : Int} (h : SB W Bs name mem F A ps c Ao os co t) (t' : Int) :
    SB (W.setCell ⟨Bs, 5, none⟩ (.int .i64 t')) Bs name mem F A ps c Ao os co t' := by
  have hz : (W.setCell ⟨Bs, 5, none⟩ (.int .i64 t')).heap.size = W.heap.size := by simp [World.setCell]
  refine ⟨h.blk.set_ 5 _, fun hn => ?_, fun hn => ?_, h.ne, h.cap⟩
  · obtain ⟨b, o, e, hb, hc⟩ := h.pt hn
    have hne : b ≠ Bs := by
      rintro rfl
      have h9 := hc 0 hn 9 _ rfl
      rw [h.blk.cell, Array.getElem?_eq_none (by simp)] at h9
      cases h9
    exact ⟨b, o, e, by rw [hz]; exact hb, fun i hi j v hv => by
      rw [World.cell?_setCell_other _ _ _ _ (fun e => hne (congrArg Addr.block e).symm)]; exact hc i hi j v hv⟩
  · obtain ⟨b, o, e, hb, hc⟩ := h.of hn
    have hne := h.ne b o e hn
    exact ⟨b, o, e, by rw [hz]; exact hb, fun i hi => by
      rw [World.cell?_setCell_other _ _ _ _ (fun e => hne (congrArg Addr.block e).symm)]; exact hc i hi⟩

/-- what the iterator needs, and what it does between two yields. -/
def OkI (Bn Bs : Nat) (name : ByteArray) (mem F : Int) (A : Option Addr) (ps : List Part) (c : Nat) (os : List Int) (_k : Nat) (W : World) : Prop :=
  Blk W Bn 65 #[.pointer (some ⟨Bs, 0, none⟩)] ∧ ∃ t, 0 ≤ t ∧ t ≤ 65536 ∧ SBx W Bs name mem F A ps c os t
def AdvI (Bs : Nat) (name : ByteArray) (mem F : Int) (A : Option Addr) (ps : List Part) (c : Nat) (os : List Int) (over : Bool) (_k : Nat) (W1 W2 : World) : Prop :=
  ∃ t, SBx W1 Bs name mem F A ps c os t ∧ (if over then 65536 < t + 1 else t + 1 ≤ 65536) ∧ Below W1.heap.size (W1.setCell ⟨Bs, 5, none⟩ (.int .i64 (t + 1))) W2
def choI : List PanicEntry := [{ v := .iface 63 (.agg #[.slice none 0 0, .int .i64 5]), recovered := false }]

set_option maxRecDepth 100000 in
set_option maxHeartbeats 4000000 in
theorem possible1_seq (m Bn Bs : Nat) (name : ByteArray) (mem F : Int) (A : Option Addr) (ps : List Part) (c : Nat) (os : List Int) (hn : os.length < ps.length) (hps : ps.length ≤ 6) (p : Part) (hp : p = ps[os.length]) (h1 : 1 ≤ p.length) (h2 : p.length ≤ p.period) (h3 : p.period ≤ 2000) :
    SeqP Try.prog m 86 #[.pointer (some ⟨Bn, 0, none⟩)] (fun k => #[.int .i64 k, .int .i64 (conflP ps os k)]) (p.period - p.length + 1).toNat (OkI Bn Bs name mem F A ps c os) (AdvI Bs name mem F A ps c os false) (AdvI Bs name mem F A ps c os true) choI := by
  intro l J M Mo Mf Jp W hOk hAdv hOver hFin hY h0
  obtain ⟨N, hN⟩ : ∃ N : Nat, (p.period - p.length + 1).toNat = N := ⟨_, rfl⟩
  rw [hN] at hOk hAdv hOver hFin
  have hN2 : (N : Int) = p.period - p.length + 1 := by omega
  refine callsIn_of_wp Try.func86 rfl trivial ?_ rfl
  simp only [Try.ntmps86, List.size_toArray, List.length_cons, List.length_nil, Nat.reduceAdd, Nat.reduceSub, Array.replicate_succ, Array.replicate_zero, List.push_toArray, List.append_toArray, List.nil_append, List.cons_append]
  gi_wp2_with fail
  gi_loopw [3] (fun o wr => ∃ k : Nat, o = .int .i64 k ∧ J k wr) (fun o _ => N + 1 - (intOf o).toNat)
  case atStart => exact ⟨0, rfl, h0⟩
  case round =>
    clear h0
    obtain ⟨k, rfl, hJ⟩ := hrel
    obtain ⟨⟨hbn, t, ht0, ht1, Ao, co, hSB⟩, hkN⟩ := hOk k wr hJ
    have c0 : wr.cell? ⟨Bn, 0, none⟩ = some (.pointer (some ⟨Bs, 0, none⟩)) := hbn.cell 0
    obtain ⟨_, _, _, _, c4, c5⟩ := hSB.cells
    have hfz := hSB.blk.frozen 5
    have hla : ∀ q, Calls Try.prog 63 #[.pointer (some ⟨Bs, 0, none⟩), .int .i64 os.length] (wr.drewN q) fun e w' => e = .returned (.int .i64 (p.period - p.length)) ∧ ∃ m, w' = (wr.drewN q).drewN m := fun q => by
      have := last_c (hSB.next (below_drewN (Below.refl _ _) q)) os.length hn (by rw [← hp]; omega) (by rw [← hp]; omega) (by rw [← hp]; omega) (by rw [← hp]; omega)
      rw [← hp] at this
      exact this
    have Hp := Lib.hid hp
    clear hp
    generalize hL : p.period - p.length = L at *
    have hk0 : (0 : Int) ≤ (k : Int) := by omega
    gi_wp2_with fail
    refine wpIn_wide.2 ?_
    go_quiet ((go_at_call 63; exact Calls.quiet_of (hla _)))
    clear hla
    by_cases hlt : k < N
    · have hkL : (k : Int) ≤ L := by omega
      have hkd : decide ((k : Int) ≤ L) = true := decide_eq_true hkL
      have ht2 : t + 1 ≤ 70000 := by omega
      by_cases hov : 65536 < t + 1
      · have hMo := hOver k wr ((wr.drewN nq).setCell ⟨Bs, 5, none⟩ (.int .i64 (t + 1))) hJ hlt ⟨t, ⟨Ao, co, hSB⟩, by simp [hov], below_drewN (Below.refl _ _) nq⟩
        have hov2 : decide (65536 < t + 1) = true := decide_eq_true hov
        have HMo := Lib.hid hMo
        clear hMo hY hAdv hOver hFin hOk
        gi_wp2
        exact ⟨rfl, .inr (.inr ⟨rfl, HMo.out⟩)⟩
      · have hov2 : decide (65536 < t + 1) = false := decide_eq_false hov
        have hS2 := (hSB.next (below_drewN (Below.refl _ _) nq)).try1 (t + 1)
        have hbn2 : Blk ((wr.drewN nq).setCell ⟨Bs, 5, none⟩ (.int .i64 (t + 1))) Bn 65 #[.pointer (some ⟨Bs, 0, none⟩)] := (hbn.drewN nq).far (p := ⟨Bs, 5, none⟩) (fun e => by
          have := hSB.blk.cell 5
          have e2 := hbn.cell 5
          simp only at e
          rw [e] at e2
          rw [e2] at this
          simp at this) _
        have hcf := conflict_m hS2 hn hps k
        have c0' : ((wr.drewN nq).setCell ⟨Bs, 5, none⟩ (.int .i64 (t + 1))).cell? ⟨Bn, 0, none⟩ = some (.pointer (some ⟨Bs, 0, none⟩)) := hbn2.cell 0
        have hle : t + 1 ≤ 65536 := by omega
        gi_wp2_with fail
        refine ⟨trivial, fun h => by simp [Fence.wide] at h, (callsIn_wide.2 hcf).mono ?_⟩
        rintro e W2 ⟨rfl, hb⟩
        have hM := hAdv k wr W2 hJ hlt ⟨t, ⟨Ao, co, hSB⟩, by simpa using hle, by
          have hx : Below wr.heap.size (wr.setCell ⟨Bs, 5, none⟩ (.int .i64 (t + 1))) ((wr.drewN nq).setCell ⟨Bs, 5, none⟩ (.int .i64 (t + 1))) := below_drewN (Below.refl _ _) nq
          exact hx.trans (hb.mono (by simp [World.setCell, World.drewN]))⟩
        obtain ⟨fn, tmps, assign, body, hy, hR⟩ := hY k W2 hM
        clear hcf hM hAdv hOver hFin hOk hb hS2 hbn2 c0 c0' c4 c5 hfz hY
        gi_wp2
        refine ⟨fun h => by simp [Fence.wide] at h, hR.mono ?_⟩
        rintro e W3 (⟨rfl, hJ3⟩ | ⟨ch, rfl, hJp⟩)
        · gi_wp2
          go_roundw
          case rel => exact ⟨k + 1, by go_num, hJ3⟩
          case measure => simp [intOf]; omega
        · exact ⟨rfl, .inr (.inl ⟨ch, rfl, hJp⟩)⟩
    · have hkL : ¬ (k : Int) ≤ L := by omega
      have hkd : decide ((k : Int) ≤ L) = false := decide_eq_false hkL
      obtain rfl : k = N := by omega
      have hMf := hFin wr (wr.drewN nq) hJ (below_drewN (Below.refl _ _) nq)
      have HMf := Lib.hid hMf
      clear hMf hY hAdv hOver hFin hOk
      gi_wp2
      go_end0
      exact .inl ⟨⟨_, rfl⟩, HMf.out⟩
end Go.Proofs.Ytlmbffnmjfbglab
