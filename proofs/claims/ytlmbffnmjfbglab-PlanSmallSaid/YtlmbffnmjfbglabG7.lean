/- Texts U7 U8 Sz, joined. -/
import Derived.SizedLaws
import Derived.Handed
import Derived.Test.YtlmbffnmjfbglabG6
import Derived.Test.YtlmbffnmjfbglabG0
import Derived.Test.YtlmbffnmjfbglabG1
set_option linter.unusedSimpArgs false
set_option linter.unusedVariables false
/- Check. -/
namespace Go.Proofs.Ytlmbffnmjfbglab
open Go.ChangeShapes Go.WideShapes Go.ChangeAt Go.RowKit

/-- what Check returns. -/
def checkV (F : Int) (ps : List Part) (l : List Claim) : Bool := timesV F ps && (decide (IntKind.i64.wrap (sizeL l) ≤ 16384) && rightP ps [] l)

set_option maxRecDepth 100000 in
set_option maxHeartbeats 2000000 in
theorem check_c (name : ByteArray) (mem F : Int) (ps : List Part) (A : Option Addr) (c : Nat) (l : List Claim) (Ac : Option Addr) (cc : Nat) (w : World) (h : RdPart w w.heap.size A ps) (hk : RdK w Ac l) (hl : ps.length * 8 ≤ 140737488355328) (hll : l.length ≤ 9223372036854775807) :
    Calls Try.prog 19 #[.agg #[.string name, .int .i64 mem, .int .i64 F, .slice A ps.length c], .slice Ac l.length cc] w fun e w' => e = .returned (.bool (checkV F ps l)) ∧ Below w.heap.size w w' := by
  obtain ⟨W1, hW1⟩ : ∃ W1, W1 = w.alloc (.cells #[.string name, .int .i64 mem, .int .i64 F, .slice A ps.length c] 24) := ⟨_, rfl⟩
  have hB : Below w.heap.size w W1 := by rw [hW1]; exact (Below.refl _ w).alloc (Nat.le_refl _) _
  have hb0 : Blk W1 w.heap.size 24 #[.string name, .int .i64 mem, .int .i64 F, .slice A ps.length c] := by rw [hW1]; exact Blk.new w 24 _
  have hpt := ptimes_c name mem F ps A c W1 (h.below hB) hl
  rw [ptimes_iff] at hpt
  have hsz : ∀ W', Below W1.heap.size W1 W' → Calls Try.prog 32 #[.slice Ac l.length cc] W' fun e w' => e = .returned (.int .i64 (IntKind.i64.wrap (sizeL l))) ∧ Below W'.heap.size W' w' := fun W' hb => size_c (sizeL l + 1) l (by omega) Ac cc W' (RdK.keep' hb (RdK.keep' hB hk)) hll
  have hzw : w.heap.size < W1.heap.size := hb0.lt
  have Hpt := Lib.hid hpt
  have Hsz := Lib.hid hsz
  have HB := Lib.hid hB
  have Hb0 := Lib.hid hb0
  have H := Lib.hid h
  have HK := Lib.hid hk
  clear hpt hsz hB h hk hb0
  obtain ⟨z, hzz⟩ : ∃ z, z = IntKind.i64.wrap (sizeL l) := ⟨_, rfl⟩
  rw [← hzz] at Hsz
  have Hz := Lib.hid hzz
  clear hzz
  cases ht : timesV F ps with
  | false =>
    have Hv := Lib.hid (show checkV F ps l = false by simp [checkV, ht])
    rw [ht] at Hpt
    clear ht
    go_enter Try.func19, Try.ntmps19
    go_wp2_with fail
    rw [← hW1]
    refine Hpt.out.mono ?_
    rintro e W2 ⟨rfl, hb⟩
    have hB2 := HB.out.trans (hb.mono HB.out.size)
    clear hb
    go_wp2_with fail
    go_ret
    exact ⟨ret_bool Hv.out.symm, hB2⟩
  | true =>
    rw [ht] at Hpt
    have hT := timesV_ok ht
    have hPT : PT ps := ⟨hT.few, fun p hp => ⟨(hT.len p hp).1, (hT.len p hp).2, (hT.per p hp).2.1⟩⟩
    have HPT := Lib.hid hPT
    have Hv := Lib.hid (show checkV F ps l = (decide (z ≤ 16384) && rightP ps [] l) by simp [checkV, ht, Hz.out])
    clear hT hPT ht
    by_cases hz : z ≤ 16384
    · have hzd : decide (z ≤ 16384) = true := decide_eq_true hz
      have Hv2 := Lib.hid (show checkV F ps l = rightP ps [] l by rw [Hv.out, hzd]; rfl)
      clear Hv hz
      go_enter Try.func19, Try.ntmps19
      go_wp2_with fail
      rw [← hW1]
      refine Hpt.out.mono ?_
      rintro e W2 ⟨rfl, hb⟩
      have hc2 := Hsz.out W2 hb
      have HB2 := Lib.hid hb
      clear hb
      go_wp2_with fail
      refine hc2.mono ?_
      rintro e W3 ⟨rfl, hb3⟩
      have hb13 := HB2.out.trans (hb3.mono HB2.out.size)
      have hB3 := HB.out.trans (hb13.mono HB.out.size)
      have hbx := Hb0.out.below hb13 hzw
      have q0 : W3.cell? ⟨w.heap.size, 0, none⟩ = some (.string name) := hbx.cell 0
      have q1 : W3.cell? ⟨w.heap.size, 1, none⟩ = some (.int .i64 mem) := hbx.cell 1
      have q2 : W3.cell? ⟨w.heap.size, 2, none⟩ = some (.int .i64 F) := hbx.cell 2
      have q3 : W3.cell? ⟨w.heap.size, 3, none⟩ = some (.slice A ps.length c) := hbx.cell 3
      have hBa : Below W3.heap.size W3 (W3.alloc (.cells #[.string name, .int .i64 mem, .int .i64 F, .slice A ps.length c, .slice none 0 0, .int .i64 0] 67)) := (Below.refl _ _).alloc (Nat.le_refl _) _
      have hB4 := hB3.trans (hBa.mono hB3.size)
      have hSO : SO (W3.alloc (.cells #[.string name, .int .i64 mem, .int .i64 F, .slice A ps.length c, .slice none 0 0, .int .i64 0] 67)) W3.heap.size name mem F A ps c w.heap.size (.slice none 0 0) [] := by
        refine ⟨Blk.new _ _ _, fun hn => ?_, World.ownsRow_nil _ _ _ _, hB3.size, by simp [Value.ownBlock]⟩
        obtain ⟨b, o, e, hlt, hc⟩ := H.out hn
        exact ⟨b, o, e, hlt, fun i hi j v hv => (hB4.cell (p := ⟨b, o + i * 10 + j, none⟩) hlt).trans (hc i hi j v hv)⟩
      have hrc := right_c W3.heap.size name mem F A ps c w.heap.size HPT.out (sizeL l + 1) l (by omega) _ _ [] Ac cc hSO (by simp) (HK.out.keep fun b hb => ⟨fun _ => World.cell?_of_block (hB4.block b hb), hb⟩) hll
      have HS := Lib.hid hSO
      have H4 := Lib.hid hB4
      clear hc2 hb3 hb13 hbx hSO hB4 hBa hB3
      go_wp2_with fail
      refine hrc.mono ?_
      rintro e W5 ⟨rfl, V5, hRG, _⟩
      have hold := HS.out.old hRG
      have hBf : Below w.heap.size w W5 := H4.out.trans (hold.mono (Nat.le_refl _))
      generalize rightP ps [] l = q at *
      clear hrc hRG hold q0 q1 q2 q3
      go_wp2_with fail
      go_ret
      exact ⟨ret_bool Hv2.out.symm, hBf⟩
    · have hzd : decide (z ≤ 16384) = false := decide_eq_false hz
      have Hv2 := Lib.hid (show checkV F ps l = false by rw [Hv.out, hzd]; rfl)
      clear Hv hz
      go_enter Try.func19, Try.ntmps19
      go_wp2_with fail
      rw [← hW1]
      refine Hpt.out.mono ?_
      rintro e W2 ⟨rfl, hb⟩
      have hc2 := Hsz.out W2 hb
      have HB2 := Lib.hid hb
      clear hb
      go_wp2_with fail
      refine hc2.mono ?_
      rintro e W3 ⟨rfl, hb3⟩
      have hb13 := HB2.out.trans (hb3.mono HB2.out.size)
      have hB3 := HB.out.trans (hb13.mono HB.out.size)
      clear hc2 hb3 hb13
      go_wp2_with fail
      go_ret
      exact ⟨ret_bool Hv2.out.symm, hB3⟩
end Go.Proofs.Ytlmbffnmjfbglab
/- What awake's calls answer; rows of claims that a call makes. -/
namespace Go.Proofs.Ytlmbffnmjfbglab
open Go.ChangeShapes Go.WideShapes Go.ChangeAt Go.RowKit

def awP : List Part := pairs [6, 3, 4, 1]
def awQ : List Part := pairs [6, 1, 4, 1]
def wantL (k : Nat) : List Claim := (List.range k).map fun (i : Nat) => .mk (i : Int) (i : Int) (-1) [.mk 0 3 0 []]
theorem aw_plan1 : planV 12 awP = ([], wantL 4, 130) := by kernel_rfl
theorem aw_plan2 : planV 12 awQ = ([0, 1], [], 0) := by kernel_rfl
theorem aw_size : sizeL (wantL 4) = 8 := by kernel_rfl
theorem aw_check : checkV 12 awP (wantL 4) = true := by kernel_rfl
theorem aw_confl : conflV 12 awP [0] 0 = 0 := by kernel_rfl

/-- a row of claims that the call makes from B on; the arrays below lie in other blocks from B on. -/
structure CR (B : Nat) (W : World) (V : Value) (cl : List Claim) (L : List CV) : Prop where
  own : W.ownsRow B 35 4 V cl.length (L.flatMap CV.cells)
  cvs : CVs W (fun b => B ≤ b ∧ V.ownBlock ≠ some b ∧ ∃ o, W.heap[b]? = some o ∧ o.isCells = true) L cl
section
variable {B : Nat} {W W' w2 : World} {V : Value} {cl : List Claim} {L : List CV} {g cap : Nat}
theorem CR.nil (B : Nat) (W : World) : CR B W (.slice none 0 0) [] [] := ⟨World.ownsRow_nil _ _ _ _, CVs.nil⟩
theorem CR.below (h : CR B W V cl L) (hb : Below W.heap.size W W') : CR B W' V cl L :=
  ⟨h.own.kept (below_grown (row := none) hb) (by cases V.ownBlock <;> simp), h.cvs.keep fun b ⟨q1, q2, o, q3, q4⟩ => by
    have e := hb.block b (Array.getElem?_eq_some_iff.1 q3).1
    exact ⟨fun _ => World.cell?_of_block e, q1, q2, o, e.trans q3, q4⟩⟩
theorem CR.push (h : CR B W V cl L) (hgr : W.grownBy w2 V.ownBlock) (x : CV) (y : Claim) (hown : w2.ownsRow B 35 4 (.slice (some ⟨g, 0, none⟩) (cl.length + 1) cap) (cl.length + 1) (L.flatMap CV.cells ++ CV.cells x)) (hg : V.ownBlock = some g ∨ g = W.heap.size)
    (hx : x.f = y.frm ∧ x.t = y.to ∧ x.w = y.wth ∧ x.s.n = y.sub.length ∧ x.s.n ≤ x.s.c ∧ x.s.c ≤ maxLen ∧ RdCls W (fun b => B ≤ b ∧ V.ownBlock ≠ some b ∧ ∃ o, W.heap[b]? = some o ∧ o.isCells = true) x.s.a y.sub) :
    CR B w2 (.slice (some ⟨g, 0, none⟩) (cl.length + 1) cap) (cl ++ [y]) (L ++ [x]) := by
  have keepQ : ∀ b, (B ≤ b ∧ V.ownBlock ≠ some b ∧ ∃ o, W.heap[b]? = some o ∧ o.isCells = true) → (∀ o, w2.cell? ⟨b, o, none⟩ = W.cell? ⟨b, o, none⟩) ∧ (B ≤ b ∧ (Value.slice (some ⟨g, 0, none⟩) (cl.length + 1) cap).ownBlock ≠ some b ∧ ∃ o, w2.heap[b]? = some o ∧ o.isCells = true) := fun b ⟨q1, q2, o, q3, q4⟩ => by
    have hb := (Array.getElem?_eq_some_iff.1 q3).1
    have e := hgr.block b hb (fun e => q2 e.symm)
    refine ⟨fun _ => World.cell?_of_block e, q1, fun e2 => ?_, o, e.trans q3, q4⟩
    simp only [Value.ownBlock] at e2
    injection e2 with e2
    rcases hg with hg | hg
    · exact q2 (by rw [hg, e2])
    · omega
  obtain ⟨a1, a2, a3, a4, a5, a6, a7⟩ := hx
  exact ⟨by simpa using hown, (h.cvs.keep keepQ).push x y ⟨a1, a2, a3, a4, a5, a6, a7.keep keepQ⟩⟩
theorem CR.rd (h : CR B W V cl L) : ∃ A c, V = .slice A cl.length c ∧ cl.length ≤ c ∧ c ≤ maxLen ∧ RdK W A cl ∧ (∀ b, V.ownBlock = some b → B ≤ b) := by
  obtain ⟨A, c, e, h1, h2, h3⟩ := rdCls_of_own (Q := fun b => b < W.heap.size) h.cvs.1.symm h.own (h.cvs.keep fun b ⟨_, _, o, q3, _⟩ => ⟨fun _ => rfl, (Array.getElem?_eq_some_iff.1 q3).1⟩) (fun g hg => (h.own.lt g hg).2)
  exact ⟨A, c, e, h1, h2, h3, fun b hb => (h.own.lt b hb).1⟩
end

set_option maxRecDepth 100000 in
set_option maxHeartbeats 4000000 in
theorem awake_c (w : World) : Calls Try.prog 13 #[] w fun e w' => e = .returned (.bool true) ∧ Below w.heap.size w w' := by
  obtain ⟨i0, hi0, hz0, hz1, hz2⟩ := info_parts info35
  go_enter Try.func13, Try.ntmps13
  go_wp2_with fail
  refine nameC fun W0 hW0 => ?_
  have hB0 : Below w.heap.size w W0 := by subst hW0; exact (Below.refl _ w).alloc (Nat.le_refl _) _
  have hr0 : RdInt W0 W0.heap.size (some ⟨w.heap.size, 0, none⟩) [6, 3, 4, 1] := by
    subst hW0; rw [World.size_alloc]; exact RdInt.new w [6, 3, 4, 1] (by decide)
  clear hW0
  refine (module_c 12 [6, 3, 4, 1] _ 4 W0 hr0 (by decide)).mono ?_
  rintro e w1 ⟨A1, c1, rfl, hp1, hb1⟩
  have hB1 := hB0.trans (hb1.mono hB0.size)
  clear hB0 hb1 hr0
  go_wp2_with fail
  have hp1' : RdPart w1 w1.heap.size A1 awP := hp1
  clear hp1
  refine nameC fun W0 hW0 => ?_
  have hBx : Below w1.heap.size w1 W0 := by subst hW0; exact (Below.refl _ w1).alloc (Nat.le_refl _) _
  have hbm : Blk W0 w1.heap.size 24 #[.string ⟨#[]⟩, .int .i64 0, .int .i64 12, .slice A1 awP.length c1] := by subst hW0; exact Blk.new w1 24 _
  have hp2 := hp1'.below hBx
  have hB2 := hB1.trans (hBx.mono hB1.size)
  have hpl := plan_c ⟨#[]⟩ 0 12 awP A1 c1 W0 hp2 (by decide)
  rw [aw_plan1] at hpl
  clear hW0 hBx hp1' hB1
  refine hpl.mono ?_
  rintro e w2 ⟨Ao, co, Ac, cc, rfl, _, hrc, hcc, _, hb2⟩
  have hrk : RdK w2 Ac (wantL 4) := hrc.keep fun b ⟨_, o, g2, _⟩ => ⟨fun _ => rfl, (Array.getElem?_eq_some_iff.1 g2).1⟩
  have hB3 := hB2.trans (hb2.mono hB2.size)
  have hp3 := hp2.below hb2
  have hbm2 := hbm.below hb2 hbm.lt
  generalize w1.heap.size = Bm at hbm2 ⊢
  clear hpl hb2 hrc hbm hp2 hB2
  go_wp2_with fail
  have Hp3 := Lib.hid hp3
  have Hrk := Lib.hid hrk
  have HB3 := Lib.hid hB3
  clear hp3 hrk hB3
  go_loopw [5, 6] (fun v i wr => ∃ (k : Nat) (L : List CV), k ≤ 4 ∧ i = .int .i64 k ∧ Below w2.heap.size w2 wr ∧ Hid (CR w2.heap.size wr v (wantL k) L)) (fun _ i _ => 4 - (intOf i).toNat)
  case atStart => exact ⟨0, [], by omega, rfl, Below.refl _ _, CR.nil _ _⟩
  case round =>
    obtain ⟨k, L, hk, rfl, hBr, hCR⟩ := hrel
    by_cases hlt : k < 4
    · have hkd : decide ((k : Int) < 4) = true := decide_eq_true (by omega)
      have hwl : (wantL k).length = k := by simp [wantL]
      have hwS : wantL (k + 1) = wantL k ++ [.mk k k (-1) [.mk 0 3 0 []]] := by simp [wantL, List.range_succ]
      have hBb : Below wr.heap.size wr ((wr.alloc (.cells #[.int .i64 0, .int .i64 3, .int .i64 0, .slice none 0 0] 35)).alloc (.cells #[.int .i64 k, .int .i64 k, .int .i64 (-1), .slice (some ⟨wr.heap.size, 0, none⟩) 1 1] 35)) := ((Below.refl _ _).alloc (Nat.le_refl _) _).alloc (by simp) _
      have hbS : Blk ((wr.alloc (.cells #[.int .i64 0, .int .i64 3, .int .i64 0, .slice none 0 0] 35)).alloc (.cells #[.int .i64 k, .int .i64 k, .int .i64 (-1), .slice (some ⟨wr.heap.size, 0, none⟩) 1 1] 35)) wr.heap.size 35 #[.int .i64 0, .int .i64 3, .int .i64 0, .slice none 0 0] := (Blk.new wr 35 _).alloc _
      have hbT : Blk ((wr.alloc (.cells #[.int .i64 0, .int .i64 3, .int .i64 0, .slice none 0 0] 35)).alloc (.cells #[.int .i64 k, .int .i64 k, .int .i64 (-1), .slice (some ⟨wr.heap.size, 0, none⟩) 1 1] 35)) (wr.heap.size + 1) 35 #[.int .i64 k, .int .i64 k, .int .i64 (-1), .slice (some ⟨wr.heap.size, 0, none⟩) 1 1] := by
        have := Blk.new (wr.alloc (.cells #[.int .i64 0, .int .i64 3, .int .i64 0, .slice none 0 0] 35)) 35 #[.int .i64 k, .int .i64 k, .int .i64 (-1), .slice (some ⟨wr.heap.size, 0, none⟩) 1 1]
        simpa only [World.size_alloc] using this
      have hcr := hCR.out.below hBb
      have hVlt : ∀ b, u5.ownBlock = some b → b < wr.heap.size := fun b hb => (hCR.out.own.lt b hb).2
      have hz : w2.heap.size ≤ wr.heap.size := hBr.size
      have Hcr := Lib.hid hcr
      have HwS := Lib.hid hwS
      have Hwl := Lib.hid hwl
      have HbS := Lib.hid hbS
      have HbT := Lib.hid hbT
      have HBb := Lib.hid hBb
      clear hcr hwS hwl hbS hbT hBb hCR
      go_wp2_with (at_builtin; refine wpList_append_lies _ rfl _ _ 29 rfl w2.heap.size 35 i0 _ 4 48 Try.underlying29 hi0 hz0 hz1 hz2 rfl (by decide) u5 (wantL k).length _ rfl Hcr.out.own ⟨wr.heap.size + 1, 0, none⟩ 1 1 (CV.cells ⟨k, k, -1, ⟨some ⟨wr.heap.size, 0, none⟩, 1, 1⟩⟩) rfl rfl (World.news_of_block HbT.out) (by simp [CV.cells, Value.oneCell']) (by omega) (by rw [Hwl.out]; unfold maxLen; omega) (by rw [Hwl.out]; omega) (by simp; omega) _ rfl ?_)
      intro g cap w3 hown hgrow hg hgl
      have hpush := Hcr.out.push hgrow ⟨k, k, -1, ⟨some ⟨wr.heap.size, 0, none⟩, 1, 1⟩⟩ (.mk k k (-1) [.mk 0 3 0 []]) hown (by simpa using hg) ⟨rfl, rfl, rfl, rfl, Nat.le_refl 1, show 1 ≤ maxLen by unfold maxLen; omega, fun _ => ⟨wr.heap.size, 0, rfl, ⟨hz, fun e => by have := hVlt _ e; omega, _, HbS.out, rfl⟩, show RdL _ _ _ _ [Claim.mk 0 3 0 []] by
        simp only [RdL, RdC, and_true]
        exact ⟨HbS.out.cell 0, HbS.out.cell 1, HbS.out.cell 2, none, 0, HbS.out.cell 3, Nat.le_refl _, by simp [maxLen], fun h => by simp at h⟩⟩⟩
      rw [← HwS.out] at hpush
      have hB5 : Below w2.heap.size w2 w3 := ((hBr.trans (HBb.out.mono hBr.size)).grown hgrow (Nat.le_trans hBr.size HBb.out.size) (fun b hb => (Hcr.out.own.lt b hb).1))
      have HP := Lib.hid hpush
      clear hown hgrow hg hpush Hcr HbS HbT HBb
      go_wp2_with fail
      go_roundw
      case rel => exact ⟨k + 1, _, by omega, by go_num, hB5, HP.out⟩
      case measure => simp [intOf]; omega
    · obtain rfl : k = 4 := by omega
      obtain ⟨Aw, cw, rfl, hw1, hw2, hwk, _⟩ := hCR.out.rd
      have hB5 := HB3.out.trans (hBr.mono HB3.out.size)
      have hp5 := Hp3.out.below hBr
      have hk5 := RdK.keep' hBr Hrk.out
      have hbm5 := hbm2.below hBr hbm2.lt
      clear hCR hlt hk Hp3 Hrk HB3 hbm2 hBr
      have r0 : wr.cell? ⟨Bm, 0, none⟩ = some (.string ⟨#[]⟩) := hbm5.cell 0
      have r1 : wr.cell? ⟨Bm, 1, none⟩ = some (.int .i64 0) := hbm5.cell 1
      have r2 : wr.cell? ⟨Bm, 2, none⟩ = some (.int .i64 12) := hbm5.cell 2
      have r3 : wr.cell? ⟨Bm, 3, none⟩ = some (.slice A1 awP.length c1) := hbm5.cell 3
      go_wp2_with fail
      refine nameC fun W5 hW5 => ?_
      have hBx : Below wr.heap.size wr W5 := by subst hW5; exact (Below.refl _ _).alloc (Nat.le_refl _) _
      have hr5 : RdInt W5 W5.heap.size (some ⟨wr.heap.size, 0, none⟩) [0] := by
        subst hW5; rw [World.size_alloc]; exact RdInt.new wr [0] (by decide)
      have hcf := conflict_c ⟨#[]⟩ 0 12 awP A1 c1 [0] (some ⟨wr.heap.size, 0, none⟩) 1 0 W5 (hp5.below hBx) hr5 (by decide) (by decide) (by decide)
      rw [aw_confl] at hcf
      refine hcf.mono ?_
      rintro e w6 ⟨rfl, hb6⟩
      have hB6x := hBx.trans (hb6.mono hBx.size)
      have hB6 := hB5.trans (hB6x.mono hB5.size)
      have hp6 := hp5.below hB6x
      have hk6 := RdK.keep' hB6x hk5
      have hw6 := RdK.keep' hB6x hwk
      have hbm6 := hbm5.below hB6x hbm5.lt
      clear hcf hr5 hBx hW5 hb6 hB6x hB5 hp5 hk5 hwk hbm5 r0 r1 r2 r3
      go_wp2_with fail
      refine nameC fun W7 hW7 => ?_
      have hBx : Below w6.heap.size w6 W7 := by subst hW7; exact (Below.refl _ _).alloc (Nat.le_refl _) _
      have hr7 : RdInt W7 W7.heap.size (some ⟨w6.heap.size, 0, none⟩) [6, 1, 4, 1] := by
        subst hW7; rw [World.size_alloc]; exact RdInt.new w6 [6, 1, 4, 1] (by decide)
      clear hW7
      refine (module_c 12 [6, 1, 4, 1] _ 4 W7 hr7 (by decide)).mono ?_
      rintro e w8 ⟨A2, c2, rfl, hp8, hb8⟩
      have hB8x := hBx.trans (hb8.mono hBx.size)
      have hp8' : RdPart w8 w8.heap.size A2 awQ := hp8
      have hpl := plan_c ⟨#[]⟩ 0 12 awQ A2 c2 w8 hp8' (by decide)
      rw [aw_plan2] at hpl
      clear hBx hr7 hb8 hp8
      go_wp2_with fail
      refine hpl.mono ?_
      rintro e w9 ⟨Ap, cp, Ad, cd, rfl, hrp, _, _, _, hb9⟩
      have hB9x := hB8x.trans (hb9.mono hB8x.size)
      have hB9 := hB6.trans (hB9x.mono hB6.size)
      have hp9 := hp6.below hB9x
      have hk9 := RdK.keep' hB9x hk6
      have hw9 := RdK.keep' hB9x hw6
      have hbm9 := hbm6.below hB9x hbm6.lt
      clear hpl hB8x hp8' hb9 hB9x hB6 hp6 hk6 hw6 hbm6
      have hsc := sameClaims_c (sizeL (wantL 4) + 1) (wantL 4) (wantL 4) (by omega) Ac Aw cc cw w9 hk9 hw9 (by decide) (by decide)
      rw [(eqL_iff _ _).2 rfl] at hsc
      have hlen : (wantL 4).length = 4 := rfl
      have hq1 : ((130 : Int) == 130) = true := by decide
      go_wp2_with fail
      refine hsc.mono ?_
      rintro e w10 ⟨rfl, hb10⟩
      have hB10 := hB9.trans (hb10.mono hB9.size)
      have hk10 := RdK.keep' hb10 hk9
      have hp10 := hp9.below hb10
      have hbm10 := hbm9.below hb10 hbm9.lt
      have hrp10 := hrp.below hb10
      have r0 : w10.cell? ⟨Bm, 0, none⟩ = some (.string ⟨#[]⟩) := hbm10.cell 0
      have r1 : w10.cell? ⟨Bm, 1, none⟩ = some (.int .i64 0) := hbm10.cell 1
      have r2 : w10.cell? ⟨Bm, 2, none⟩ = some (.int .i64 12) := hbm10.cell 2
      have r3 : w10.cell? ⟨Bm, 3, none⟩ = some (.slice A1 awP.length c1) := hbm10.cell 3
      have hck := check_c ⟨#[]⟩ 0 12 awP A1 c1 (wantL 4) Ac cc w10 hp10 hk10 (by decide) (by decide)
      rw [aw_check] at hck
      clear hsc hb10 hB9 hk9 hp9 hbm9 hrp hw9
      go_wp2_with fail
      refine hck.mono ?_
      rintro e w11 ⟨rfl, hb11⟩
      have hB11 := hB10.trans (hb11.mono hB10.size)
      have hk11 := RdK.keep' hb11 hk10
      have hrp11 := hrp10.below hb11
      have hsz := size_c (sizeL (wantL 4) + 1) (wantL 4) (by omega) Ac cc w11 hk11 (by decide)
      rw [aw_size] at hsz
      have hsz' : Calls Try.prog 32 #[.slice Ac 4 cc] w11 fun e w' => e = .returned (.int .i64 8) ∧ Below w11.heap.size w11 w' := hsz
      clear hck hb11 hB10 hk10 hp10 hbm10 hrp10 r0 r1 r2 r3 hsz
      go_wp2_with fail
      refine hsz'.mono ?_
      rintro e w12 ⟨rfl, hb12⟩
      have hB12 := hB11.trans (hb12.mono hB11.size)
      have hrp12 := hrp11.below hb12
      clear hsz' hb12 hB11 hk11 hrp11
      go_wp2_with fail
      refine nameC fun W13 hW13 => ?_
      have hBx : Below w12.heap.size w12 W13 := by subst hW13; exact (Below.refl _ _).alloc (Nat.le_refl _) _
      have hr13 : RdInt W13 W13.heap.size (some ⟨w12.heap.size, 0, none⟩) [0, 1] := by
        subst hW13; rw [World.size_alloc]; exact RdInt.new w12 [0, 1] (by decide)
      have hB13 := hB12.trans (hBx.mono hB12.size)
      have hsi := sameInts_c [0, 1] [0, 1] Ap (some ⟨w12.heap.size, 0, none⟩) cp 2 W13 (hrp12.below hBx) hr13 (by decide) (by decide)
      rw [decide_eq_true rfl] at hsi
      refine hsi.mono ?_
      rintro e w14 ⟨rfl, hb14⟩
      have hB14 := hB13.trans (hb14.mono hB13.size)
      clear hsi hr13 hBx hW13 hb14 hB13 hB12 hrp12
      go_wp2_with fail
      go_ret
      exact ⟨rfl, hB14⟩
end Go.Proofs.Ytlmbffnmjfbglab
/- How large what came in may be. -/
namespace Go.Proofs.Ytlmbffnmjfbglab
open Go.ChangeShapes Go.WideShapes Go.ChangeAt Go.RowKit Go.Deep

theorem bytes56 : Try.prog.bytesOf 56 = 152 := by kernel_rfl
set_option maxRecDepth 100000 in
theorem sz_module {H : Type} {enc : TypeId × Value → H} {W : World} {r : Reach} {b0 : Nat} {v : Value} {d : DataW H} {p : List MemPlace} (hok : Value.okWide Try.prog W r b0 24 v) (h : DataW.Trod enc Try.prog W 0 (fun _ => true) true 24 v d p)
    (hz : ∀ n ∈ d.weights Try.prog 24, n ≤ reachBytes) {a b c : Value} {A : Option Addr} {len cap : Nat} (e : v = .agg #[a, b, c, .slice A len cap]) : len * 8 ≤ 140737488355328 := by
  obtain ⟨f0, f1, f2, f3, hs, ht0, ht1, ht2, ht3⟩ : ∃ f0 f1 f2 f3 : Field, Try.prog.underlying 24 = some (.struct #[f0, f1, f2, f3]) ∧ f0.type = 9 ∧ f1.type = 3 ∧ f2.type = 3 ∧ f3.type = 22 := ⟨_, _, _, _, Try.underlying24, rfl, rfl, rfl, rfl⟩
  have hone : oneCellFields Try.prog #[f0, f1, f2, f3] = true := by
    have e : oneCellFields Try.prog (Try.prog.fieldsOf 24) = true := by kernel_rfl
    have e2 : Try.prog.fieldsOf 24 = #[f0, f1, f2, f3] := by simp [Program.fieldsOf, hs]
    rw [e2] at e; exact e
  obtain ⟨v0, v1, v2, v3, y0, y1, y2, y3, n, hv, hd, hp, g0, g1, g2, g3⟩ := Joins.open_agg4 hs hone (by kernel_rfl) hok h
  rw [ht3] at g3
  subst e
  injection hv with hv
  have e3 : v3 = .slice A len cap := by
    have := congrArg (fun (x : Array Value) => x[3]?) hv
    simpa using this.symm
  subst e3
  subst hd
  have hu : Try.prog.underlying 56 = some (.struct (Try.prog.fieldsOf 56)) := by kernel_rfl
  rcases open_slice_fields Try.underlying22 hu (by kernel_rfl) (by kernel_rfl) g3 with ⟨hcs, _⟩ | ⟨a', len', cap', m, D, Pl, hcs, _, hl, hm, hmm, hx, _⟩
  · injection hcs with hcs
    injection hcs with _ h2 _
    subst h2
    omega
  · injection hcs with hcs
    injection hcs with _ h2 h3
    subst h2 h3
    have hw := hz ((((List.range len).map D).length + ((List.range (m - len)).map fun j => D (len + j)).length) * Try.prog.bytesOf 56) (by
      simp only [DataW.weights, hs]
      refine DataW.weights_mem_each (j := 3) (t := 22) (d := y3.1) (by simp [ht3]) (by simp) _ ?_
      rw [hx]
      simp [DataW.weights, Try.underlying22])
    rw [bytes56] at hw
    have hr := reachBytes_lt
    simp at hw
    omega


theorem bytes3 : Try.prog.bytesOf 3 = 8 := by kernel_rfl
theorem sz_ints {H : Type} {enc : TypeId × Value → H} {W : World} {d : DataW H} {p : List MemPlace} {A : Option Addr} {len cap : Nat} (h : DataW.Trod enc Try.prog W 0 (fun _ => true) true 28 (.slice A len cap) d p)
    (hz : ∀ n ∈ d.weights Try.prog 28, n ≤ reachBytes) : len * 8 ≤ 140737488351232 := by
  obtain ⟨fuel, hf⟩ := h
  rcases open_ints Try.underlying28 Try.underlying3 (by kernel_rfl) hf with ⟨hcs, _⟩ | ⟨a', len', cap', zs, hcs, _, hl, hm, hzl, hx, _, _⟩
  · simp [Value.cells] at hcs
    omega
  · simp [Value.cells] at hcs
    obtain ⟨rfl, rfl, rfl⟩ := hcs
    simp at hzl
    have hd : d = .slice (lits .i64 (zs.take len)) (lits .i64 (zs.drop len)) := congrArg Prod.fst hx
    subst hd
    have hw := hz (((lits (H := H) .i64 (zs.take len)).length + (lits (H := H) .i64 (zs.drop len)).length) * Try.prog.bytesOf 3) (by
      simp [DataW.weights, Try.underlying28])
    rw [bytes3] at hw
    have hr : reachBytes = 140737488351232 := by decide
    simp [lits] at hw
    omega
end Go.Proofs.Ytlmbffnmjfbglab
