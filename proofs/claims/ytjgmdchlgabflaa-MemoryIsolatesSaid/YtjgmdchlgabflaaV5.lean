/- Valid (22), lays (21), MemoryTells (6). -/
import Derived.Test.YtjgmdchlgabflaaV2
import Derived.Test.YtjgmdchlgabflaaV3
import Derived.Test.YtjgmdchlgabflaaV4
import Derived.Test.YtjgmdchlgabflaaA7
import Derived.Test.YtjgmdchlgabflaaC1
namespace Go.Proofs.Ytjgmdchlgabflaa
open Go.ChangeShapes Go.WideShapes Go.ChangeAt Go.RowKit

theorem layV_small (mem : Int) (ms : List Int) : (layV mem ms).1.length ≤ 6 := by
  unfold layV
  by_cases h : (sizeB mem && decide (ms.length ≤ 6) && ms.all sizeB) = true
  · rw [if_pos h]
    simp only [Bool.and_eq_true, decide_eq_true_eq] at h
    by_cases h2 : mem < (layTo ms ms.length).2
    · rw [if_pos h2]; exact Nat.zero_le _
    · rw [if_neg h2]
      show (layTo ms ms.length).1.length ≤ 6
      rw [layTo_len ms ms.length (Nat.le_refl _)]; omega
  · rw [if_neg h]; exact Nat.zero_le _
theorem RdReg.none_nil {w : World} {B : Nat} {A : Option Addr} {l : List Reg} (h : RdReg w B A l) (hA : A = none) : l.length = 0 := by
  rcases Nat.eq_zero_or_pos l.length with e | e
  · exact e
  · obtain ⟨b, o, e, _⟩ := h e; rw [hA] at e; cases e

theorem Valid_c (mem : Int) (l : List Reg) (A : Option Addr) (c : Nat) (w : World) (h : RdReg w w.heap.size A l) (hl : l.length ≤ 4611686018427387904) :
    Calls Try.prog 22 #[.slice A l.length c, .int .i64 mem] w fun e w' => e = .returned (.bool (validV l mem)) ∧ Below w.heap.size w w' := by
  have hv := valid_c mem l A c w h h.none_nil hl
  generalize validV l mem = b at hv ⊢
  clear h
  go_enter Try.func22, Try.ntmps22
  go_wp2_with fail
  refine hv.mono ?_
  rintro e w' ⟨rfl, hb⟩
  go_wp2
  go_ret
  exact ⟨rfl, hb⟩

theorem layV_many {mem : Int} {ms : List Int} (h : 6 < ms.length) : layV mem ms = ([], 2) := by
  simp only [layV, show ¬ ms.length ≤ 6 from by omega]; simp
set_option maxRecDepth 100000 in
set_option maxHeartbeats 1000000 in
theorem layout_any (name : ByteArray) (mem frame : Int) (l : List Part) (A : Option Addr) (c : Nat) (w : World) (h : RdPart w w.heap.size A l) :
    Calls Try.prog 16 #[.agg #[.string name, .int .i64 mem, .int .i64 frame, .slice A l.length c]] w (RetRegs w (layV mem (l.map Part.mem))) := by
  by_cases h6 : 6 < l.length
  · have hW1 : Below w.heap.size w (w.alloc (.cells #[.string name, .int .i64 mem, .int .i64 frame, .slice A l.length c] 33)) := (Below.refl _ w).alloc (Nat.le_refl _) _
    have hz := fun W => size_c mem W
    rw [layV_many (by simpa using h6)]
    clear h
    have h6' : (6 : Int) < (l.length : Int) := by omega
    cases hm : sizeB mem with
    | false =>
      rw [hm] at hz
      clear hm
      go_enter Try.func16, Try.ntmps16
      go_wp2_with (go_at_call 33; refine (hz _).mono ?_; rintro e w' ⟨rfl, rfl⟩)
      go_ret2
      exact retRegs_none hW1
    | true =>
      rw [hm] at hz
      clear hm
      go_enter Try.func16, Try.ntmps16
      go_wp2_with (go_at_call 33; refine (hz _).mono ?_; rintro e w' ⟨rfl, rfl⟩)
      go_ret2
      exact retRegs_none hW1
  · exact layout_c name mem frame l A c w h (by omega)
set_option maxRecDepth 100000 in
set_option maxHeartbeats 1000000 in
theorem refLayout_any (name : ByteArray) (mem frame : Int) (l : List Part) (A : Option Addr) (c : Nat) (w : World) (h : RdPart w w.heap.size A l) :
    Calls Try.prog 39 #[.agg #[.string name, .int .i64 mem, .int .i64 frame, .slice A l.length c]] w (RetRegs w (layV mem (l.map Part.mem))) := by
  by_cases h6 : 6 < l.length
  · have hW1 : Below w.heap.size w (w.alloc (.cells #[.string name, .int .i64 mem, .int .i64 frame, .slice A l.length c] 33)) := (Below.refl _ w).alloc (Nat.le_refl _) _
    rw [layV_many (by simpa using h6)]
    clear h
    have h6' : (6 : Int) < (l.length : Int) := by omega
    by_cases b1 : mem < 0
    · go_enter Try.func39, Try.ntmps39
      go_wp2
      go_ret2
      exact retRegs_none hW1
    by_cases b2 : 4096 < mem
    · go_enter Try.func39, Try.ntmps39
      go_wp2
      go_ret2
      exact retRegs_none hW1
    · go_enter Try.func39, Try.ntmps39
      go_wp2
      go_ret2
      exact retRegs_none hW1
  · exact refLayout_c name mem frame l A c w h (by omega)

theorem Lent.rd {w : World} {v : Value} {l : List Reg} (h : Lent w v l) : ∃ A c, v = .slice A l.length c ∧ RdReg w w.heap.size A l := by
  obtain ⟨g, cap, rfl, hr⟩ := h
  refine ⟨_, cap, rfl, ?_⟩
  have h2 := (hr.take l.length).rd
  rwa [List.take_left'] at h2
  rfl

set_option maxRecDepth 100000 in
set_option maxHeartbeats 2000000 in
theorem lays_c (name : ByteArray) (mem frame n : Int) (l : List Part) (A : Option Addr) (c : Nat) (rs : List Reg) (A2 : Option Addr) (c2 : Nat) (w : World)
    (h : RdPart w w.heap.size A l) (h2 : RdReg w w.heap.size A2 rs) (hl2 : rs.length ≤ 1000) :
    Calls Try.prog 21 #[.agg #[.string name, .int .i64 mem, .int .i64 frame, .slice A l.length c], .slice A2 rs.length c2, .int .i64 n] w fun e w' => e = .returned (.bool true) ∧ Below w.heap.size w w' := by
  have hW1 : Below w.heap.size w (w.alloc (.cells #[.string name, .int .i64 mem, .int .i64 frame, .slice A l.length c] 33)) := (Below.refl _ w).alloc (Nat.le_refl _) _
  have hb0 := Blk.new w 33 #[.string name, .int .i64 mem, .int .i64 frame, .slice A l.length c]
  have hsm := layV_small mem (l.map Part.mem)
  have hlay := fun W (hh : RdPart W W.heap.size A l) => layout_any name mem frame l A c W hh
  have hrlay := fun W (hh : RdPart W W.heap.size A l) => refLayout_any name mem frame l A c W hh
  generalize layV mem (l.map Part.mem) = q at hlay hrlay hsm
  obtain ⟨q1, q2⟩ := q
  simp only at hsm
  have hlent := lent_c rs A2 c2 _ (h2.below hW1) hl2
  go_enter Try.func21, Try.ntmps21
  go_wp2_with fail
  refine hlent.mono ?_
  clear hlent
  rintro e w1 ⟨v, rfl, hlv, hb1⟩
  have hB1 := hW1.trans (hb1.mono (by simp))
  have B1 := hb0.below hb1 (by simp)
  have g0 := B1.cell 0
  have g1 := B1.cell 1
  have g2 := B1.cell 2
  have g3 := B1.cell 3
  simp at g0 g1 g2 g3
  have hlt1 := B1.lt
  have p1 := h.below hB1
  clear hb1 hb0 B1 hW1
  have hl1 := hlay w1 p1
  clear hlay
  go_wp2_with fail
  refine hl1.mono ?_
  clear hl1
  rintro e w2 ⟨Aq, cq, rfl, hq, hb2⟩
  have hB2 := hB1.trans (hb2.mono hB1.size)
  have lv2 := hlv.below hb2
  have k0 := (hb2.cell (p := ⟨w.heap.size, 0, none⟩) hlt1).trans g0
  have k1 := (hb2.cell (p := ⟨w.heap.size, 1, none⟩) hlt1).trans g1
  have k2 := (hb2.cell (p := ⟨w.heap.size, 2, none⟩) hlt1).trans g2
  have k3 := (hb2.cell (p := ⟨w.heap.size, 3, none⟩) hlt1).trans g3
  have p2 := h.below hB2
  clear g0 g1 g2 g3 hlv hb2 hB1 p1
  have hl1 := hrlay w2 p2
  clear hrlay p2
  go_wp2_with fail
  refine hl1.mono ?_
  clear hl1
  rintro e w3 ⟨Ar, cr, rfl, hr, hb3⟩
  have hB3 := hB2.trans (hb3.mono hB2.size)
  have lv3 := lv2.below hb3
  have q3 := hq.below hb3
  clear k0 k1 k2 k3 lv2 hq hb3 hB2
  have hsame := same_c q1 q1 Aq Ar cq cr w3 q3 hr (by omega) (by omega)
  rw [sameB_iff.2 rfl] at hsame
  go_wp2_with fail
  refine hsame.mono ?_
  clear hsame q3 hr
  rintro e w4 ⟨rfl, hb4⟩
  have hB4 := hB3.trans (hb4.mono hB3.size)
  have lv4 := lv3.below hb4
  clear lv3 hb4 hB3
  obtain ⟨Av, cv, rfl, rv4⟩ := lv4.rd
  have hval := Valid_c n rs Av cv w4 rv4 (by omega)
  go_wp2_with fail
  refine hval.mono ?_
  clear hval rv4
  rintro e w5 ⟨rfl, hb5⟩
  have hB5 := hB4.trans (hb5.mono hB4.size)
  have lv5 := lv4.below hb5
  clear lv4 hb5 hB4
  have hval := refValid_c n rs A2 c2 w5 (h2.below hB5) (by omega)
  go_wp2_with fail
  refine hval.mono ?_
  clear hval
  rintro e w6 ⟨rfl, hb6⟩
  have hB6 := hB5.trans (hb6.mono hB5.size)
  have lv6 := lv5.below hb6
  clear lv5 hb6 hB5
  have hk := kept_c _ rs A2 c2 w6 lv6 (h2.below hB6) hl2
  generalize validV rs n = bb
  go_wp2_with fail
  refine hk.mono ?_
  clear hk
  rintro e w7 ⟨rfl, hb7⟩
  have hB7 := hB6.trans (hb7.mono hB6.size)
  clear hB6 hb7 lv6
  go_wp2
  go_ret
  exact ⟨rfl, hB7⟩

set_option maxRecDepth 100000 in
set_option maxHeartbeats 2000000 in
theorem tells_walk (name : ByteArray) (mem frame n : Int) (l : List Part) (A : Option Addr) (c : Nat) (rs : List Reg) (A2 : Option Addr) (c2 : Nat) (w : World)
    (h : RdPart w w.heap.size A l) (hl : l.length ≤ maxLen) (h2 : RdReg w w.heap.size A2 rs) (hl2 : rs.length ≤ maxLen) :
    Calls Try.prog 6 #[.agg #[.string name, .int .i64 mem, .int .i64 frame, .slice A l.length c], .slice A2 rs.length c2, .int .i64 n] w fun e w' => e = .returned (.bool true) ∧ Below w.heap.size w w' := by
  unfold maxLen at hl hl2
  have hW1 : Below w.heap.size w (w.alloc (.cells #[.string name, .int .i64 mem, .int .i64 frame, .slice A l.length c] 33)) := (Below.refl _ w).alloc (Nat.le_refl _) _
  have hb0 := Blk.new w 33 #[.string name, .int .i64 mem, .int .i64 frame, .slice A l.length c]
  have haw := fun W => awake_c W
  by_cases hn : 200 < rs.length
  · have hn' : (200 : Int) < (rs.length : Int) := by omega
    clear h h2 hb0
    go_enter Try.func6, Try.ntmps6
    go_wp2_with (go_at_call 10; refine (haw _).mono ?_; rintro e w1 ⟨rfl, hb1⟩)
    go_ret
    exact ⟨rfl, hW1.trans (hb1.mono (by simp))⟩
  · have hn' : (rs.length : Int) ≤ 200 := by omega
    have g0 := hb0.cell 0
    have g1 := hb0.cell 1
    have g2 := hb0.cell 2
    have g3 := hb0.cell 3
    simp at g0 g1 g2 g3
    have hly := lays_c name mem frame n l A c rs A2 c2 _ (h.below hW1) (h2.below hW1) (by omega)
    clear h h2 hb0
    go_enter Try.func6, Try.ntmps6
    go_wp2_with fail
    refine hly.mono ?_
    rintro e w1 ⟨rfl, hb1⟩
    have hB1 := hW1.trans (hb1.mono (by simp))
    clear hly hb1 hW1
    have haw1 := haw w1
    clear haw
    go_wp2_with fail
    refine haw1.mono ?_
    rintro e w2 ⟨rfl, hb2⟩
    have hB2 := hB1.trans (hb2.mono hB1.size)
    clear hb2 hB1 haw1
    go_wp2
    go_ret
    exact ⟨rfl, hB2⟩

-- THE ROW
set_option maxRecDepth 100000 in
theorem memoryTells_lifted (os : Os) (started : os.Started) (H : Type) (enc : TypeId × Value → H) :
    ReturnsInHanded {} Try.checked os 6 .any (Rows.memoryTellsSpec.pre6 enc Try.prog Try.f6 Rows.memoryTellsRow.domain false) (Rows.memoryTellsSpec.post enc Try.prog Try.f6 false true false false) := by
  refine returnsInHanded_of_change (C := Try.checked) own started (by kernel_rfl) Try.func6
    (ChangeSpec.witness6 (enc := enc) (C := Try.checked) false ⟨#[], #[.agg #[.string ⟨#[]⟩, .int .i64 0, .int .i64 0, .slice none 0 0], .slice none 0 0, .int .i64 0], []⟩ 8 (by kernel_rfl) (by kernel_rfl) (by kernel_rfl) (by kernel_rfl)) ?_
  intro W base args ds gs before hval0 hW hcnd _
  have hval : ∀ (j : Nat) t v, Try.f6.params[j]? = some t → args[j]? = some v → Value.okWide Try.prog W .any base t v := hval0
  have hW' := hW
  obtain ⟨p, q, hA0, hV, rfl, hfz, hnd⟩ := hW
  have hA : DataW.TrodAll enc Try.prog W 0 (fun _ => true) true Try.f6.params.toList args.toList ds p := hA0
  rw [Try.params6] at hA hval
  obtain ⟨v0, vs0, d0, ds0, p0, q0, hargs, rfl, rfl, h0, r0⟩ := trodAll_cons hA
  obtain ⟨v1, vs1, d1, ds1, p1, q1, rfl, rfl, rfl, h1, r1⟩ := trodAll_cons r0
  obtain ⟨v2, vs2, d2, ds2, p2, q2, rfl, rfl, rfl, h2, r2⟩ := trodAll_cons r1
  obtain ⟨rfl, rfl, rfl⟩ := trodAll_nil r2
  obtain rfl : args = #[v0, v1, v2] := by cases args; simp_all
  obtain ⟨name0, mem0, frame0, A0, c0, l0, rfl, km0, kf0, hlc0, hcm0, hR0, hP0⟩ := open_module (hval 0 33 v0 rfl rfl) h0
  obtain ⟨A1, c1, l1, rfl, hlc1, hcm1, hR1, hP1⟩ := open_regs (hval 1 22 v1 rfl rfl) h1
  obtain ⟨a2, rfl, rfl, rfl, w2⟩ := open_int Try.underlying3 (hval 2 3 v2 rfl rfl) h2
  clear hA0 hval0
  refine (tells_walk name0 mem0 frame0 a2 l0 A0 c0 l1 A1 c1 W hR0 (Nat.le_trans hlc0 hcm0) hR1 (Nat.le_trans hlc1 hcm1)).mono fun e W' ⟨he, hg⟩ => ?_
  subst he
  refine ⟨_, rfl, law_post (tb := 4) laid ?_ ?_ Try.underlying4 rfl hW' ⟨rfl, rfl, rfl⟩ hg⟩
  · rw [Try.params6]; intro t ht; simp at ht; rcases ht with rfl | rfl | rfl <;> exact ⟨by kernel_rfl, of_decide_eq_true (by kernel_rfl)⟩
  · kernel_rfl

theorem memoryTells_holds : Rows.MemoryTellsSaid :=
  OpenClaim.holds_of_wide 6 Try.f6 rfl rfl rfl rfl rfl rfl rfl ⟨rfl, rfl, rfl, rfl, rfl⟩ rfl rfl rfl rfl rfl (by kernel_rfl) Try.func6 (by kernel_rfl)
    (of_decide_eq_true (by kernel_rfl)) (by unfold Func.isWrapper; first | (rw [if_pos (by decide +kernel)]; kernel_rfl) | (rw [if_neg (by decide +kernel)]; exact ⟨rfl, rfl⟩))
    (fun os started H enc _ => memoryTells_lifted os started H enc)
#print axioms memoryTells_holds
end Go.Proofs.Ytjgmdchlgabflaa
