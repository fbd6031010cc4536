/- Texts K11 K12, joined. -/
import Derived.Test.YtnbnkhockoflgaaGreatDoorJ26
import Derived.Test.YtnbnkhockoflgaaGreatDoorJ20
set_option linter.unusedSimpArgs false
set_option linter.unusedVariables false
set_option linter.unusedSectionVars false
/- The checker's rule on causes: the walk. -/
namespace Go.Proofs.YtnbnkhockoflgaaGreatDoor
open Go.ChangeShapes Go.WideShapes Go.ChangeAt Go.RowKit
attribute [local go_sem] Oper.semAt_some

/-- the rounds of the rule: what stays, till nothing changes. -/
def runC (L : List CsV) : Nat → Int → List CsV → Bool
  | 0, _, _ => false
  | f + 1, n, R => if n = R.length then decide (R.length = 0) else runC L f R.length (R.filter (staysV L R))
theorem runC_end {L R : List CsV} {f : Nat} {n : Int} (h : runC L f n R = true) (hn : n = R.length) : R.length = 0 := by
  cases f with
  | zero => cases h
  | succ f => simpa [runC, hn] using h
theorem runC_next {L R : List CsV} {f : Nat} {n : Int} (h : runC L f n R = true) (hn : ¬ n = R.length) : ∃ f', f = f' + 1 ∧ runC L f' R.length (R.filter (staysV L R)) = true := by
  cases f with
  | zero => cases h
  | succ f =>
    rw [runC, if_neg hn] at h
    exact ⟨f, rfl, h⟩
theorem rdCs_own {W : World} {base c : Nat} {A : Option Addr} {L : List CsV} (h : W.ownsRow base 33 3 (.slice A L.length c) L.length (L.flatMap CsV.cells)) (hx : ∀ x ∈ L, x.rd W W.heap.size) : RdCs W W.heap.size A L := fun hn => by
  obtain ⟨g, cap, hv, _, hlt⟩ := h.form hn
  have hA : A = some ⟨g, 0, none⟩ := by injection hv
  subst hA
  refine ⟨g, 0, rfl, hlt, fun i hi => ?_⟩
  obtain ⟨q0, q1, q2⟩ := cellsC_get L i hi
  have c0 := h.cells (g := g) rfl _ _ q0
  have c1 := h.cells (g := g) rfl _ _ q1
  have c2 := h.cells (g := g) rfl _ _ q2
  rw [add_none] at c0 c1 c2
  exact ⟨by simpa using c0, by simpa using c1, by simpa using c2, hx _ (List.getElem_mem hi)⟩
theorem filt_yes {p : CsV → Bool} {R : List CsV} {k : Nat} (hk : k < R.length) (h : p R[k] = true) : (R.take (k + 1)).filter p = (R.take k).filter p ++ [R[k]] := by
  rw [List.take_succ_eq_append_getElem hk, List.filter_append]; simp [h]
theorem filt_no {p : CsV → Bool} {R : List CsV} {k : Nat} (hk : k < R.length) (h : p R[k] = false) : (R.take (k + 1)).filter p = (R.take k).filter p := by
  rw [List.take_succ_eq_append_getElem hk, List.filter_append]; simp [h]
theorem filt_len {p : CsV → Bool} {R : List CsV} {k : Nat} : ((R.take k).filter p).length ≤ R.length := Nat.le_trans (List.length_filter_le _ _) (by simp; omega)
def mesC (a : Value) (b : Option Value) : Nat := match b with
  | some (.slice _ n _) => 2 * n + (match a with | .int _ i => if i = n then 0 else 1 | _ => 0)
  | _ => 0
theorem mesC_eq (k : IntKind) (i : Int) (A : Option Addr) (n c : Nat) : mesC (.int k i) (some (.slice A n c)) = 2 * n + if i = n then 0 else 1 := rfl
/-- what lies in memory between the rounds. -/
structure CauR (w : World) (g : Nat) (A : Option Addr) (L : List CsV) (c : Nat) (AR : Option Addr) (R : List CsV) (cR : Nat) (W : World) : Prop where
  below : Below w.heap.size w W
  k : Blk W w.heap.size 114 #[.pointer (some ⟨g, 0, none⟩)]
  br : Blk W (w.heap.size + 1) 22 #[.slice AR R.length cR]
  rr : RdCs W W.heap.size AR R
  sub : ∀ x ∈ R, x ∈ L
  lr : R.length ≤ L.length
set_option maxRecDepth 100000 in
set_option maxHeartbeats 2000000 in
theorem causes_c (g : Nat) (A : Option Addr) (L : List CsV) (c : Nat) (F : Nat) (w : World) (h : CkB w g A L.length c) (hr : RdCs w w.heap.size A L) (hl : L.length ≤ 1000) (hx : ∀ x ∈ L, x.c.excl.length ≤ 1000) (hrd : ∀ x ∈ L, x.rd w w.heap.size) (hrun : runC L F (-1) L = true) :
    Calls Tryz.prog 67 #[.pointer (some ⟨g, 0, none⟩)] w fun e w' => e = .returned (.bool true) ∧ Below w.heap.size w w' := by
  obtain ⟨w1, hw1⟩ : ∃ w1, w1 = (w.alloc (.cells #[.pointer (some ⟨g, 0, none⟩)] 114)).alloc (.cells #[.slice A L.length c] 22) := ⟨_, rfl⟩
  have hB1 : Below w.heap.size w w1 := by rw [hw1]; exact ((Below.refl _ w).alloc (Nat.le_refl _) _).alloc (by simp) _
  have hk1 : Blk w1 w.heap.size 114 #[.pointer (some ⟨g, 0, none⟩)] := by rw [hw1]; exact (Blk.new w _ _).alloc _
  have hb1 : Blk w1 (w.heap.size + 1) 22 #[.slice A L.length c] := by
    rw [hw1]
    have := Blk.new (w.alloc (.cells #[.pointer (some ⟨g, 0, none⟩)] 114)) 22 #[.slice A L.length c]
    rwa [World.size_alloc] at this
  have hst : CauR w g A L c A L c w1 := ⟨hB1, hk1, hb1, hr.below hB1, fun x h => h, Nat.le_refl _⟩
  have c6 : (w.alloc (.cells #[.pointer (some ⟨g, 0, none⟩)] 114)).cell? ⟨g, 6, none⟩ = some (.slice A L.length c) := (Blk.alloc h _).cell 6
  have hlt : g < w.heap.size := Blk.lt h
  have Hw1 := Lib.hid hw1
  have Hst := Lib.hid hst
  have H := Lib.hid h
  have Hr := Lib.hid hr
  have Hx := Lib.hid hx
  have Hrd := Lib.hid hrd
  have Hrun := Lib.hid hrun
  clear hw1 hB1 hk1 hb1 hst h hr hx hrd hrun
  go_enter Tryz.func67, Tryz.ntmps67
  go_wp2_with fail
  rw [← Hw1.out]
  go_loopw [4] (fun t wr => ∃ (f : Nat) (n : Int) (R : List CsV) (AR : Option Addr) (cR : Nat), t = .int .i64 n ∧ Hid (runC L f n R = true) ∧ CauR w g A L c AR R cR wr ∧ f ≤ F) (fun t wr => mesC t (wr.cell? ⟨w.heap.size + 1, 0, none⟩))
  case atStart => exact ⟨F, -1, L, A, c, rfl, Hrun, Hst.out, Nat.le_refl _⟩
  case round =>
    clear Hst Hrun c6
    obtain ⟨f, n, R, AR, cR, rfl, hrun, hS, hf⟩ := hrel
    generalize wr = w4 at *
    have hm0 : w4.cell? ⟨w.heap.size + 1, 0, none⟩ = some (.slice AR R.length cR) := hS.br.cell 0
    have hm0' := hm0
    have Hm0 := Lib.hid hm0'
    clear hm0'
    by_cases hn : n = R.length
    · have h0 := runC_end hrun.out hn
      have hd : ((R.length : Int) == 0) = true := by rw [h0]; rfl
      have hne : (n != (R.length : Int)) = false := by rw [hn]; simp
      have hbl := hS.below
      clear hrun hS h0 hn
      go_wp2_with fail
      go_ret
      exact ⟨rfl, hbl⟩
    · obtain ⟨f', rfl, hnx⟩ := runC_next hrun.out hn
      have hne : (n != (R.length : Int)) = true := by simpa using hn
      obtain ⟨w5, hw5⟩ : ∃ w5, w5 = (w4.alloc (.cells #[.func (.func 125) #[] #[.pointer (some ⟨w.heap.size + 1, 0, none⟩)]] 99)).alloc (.cells #[.func (.func 128) #[] #[.pointer (some ⟨w.heap.size, 0, none⟩)]] 99) := ⟨_, rfl⟩
      have hB5 : Below w4.heap.size w4 w5 := by rw [hw5]; exact ((Below.refl _ w4).alloc (Nat.le_refl _) _).alloc (by simp) _
      have hb5 : Blk w5 w4.heap.size 99 #[.func (.func 125) #[] #[.pointer (some ⟨w.heap.size + 1, 0, none⟩)]] := by rw [hw5]; exact (Blk.new w4 _ _).alloc _
      have hb6 : Blk w5 (w4.heap.size + 1) 99 #[.func (.func 128) #[] #[.pointer (some ⟨w.heap.size, 0, none⟩)]] := by
        rw [hw5]
        have := Blk.new (w4.alloc (.cells #[.func (.func 125) #[] #[.pointer (some ⟨w.heap.size + 1, 0, none⟩)]] 99)) 99 #[.func (.func 128) #[] #[.pointer (some ⟨w.heap.size, 0, none⟩)]]
        rwa [World.size_alloc] at this
      have hbw5 : Below w.heap.size w w5 := hS.below.trans (hB5.mono hS.below.size)
      have hcl : ClsIn w5 g (w.heap.size + 1) w.heap.size w4.heap.size (w4.heap.size + 1) A L c AR R cR :=
        ⟨hS.k.below hB5 hS.k.lt, Blk.below H.out hbw5 (Blk.lt H.out), Hr.out.below hbw5, hS.br.below hB5 hS.br.lt, hS.rr.below hB5, hb5, hb6, hl, by have := hS.lr; omega⟩
      have hwz : w.heap.size + 1 < w4.heap.size := hS.br.lt
      have hlr := hS.lr
      have Hcl := Lib.hid hcl
      have Hbw5 := Lib.hid hbw5
      have Hw5 := Lib.hid hw5
      have Hnx := Lib.hid hnx
      have Hsub := Lib.hid hS.sub
      have hz5 : w5.heap.size = w4.heap.size + 2 := by rw [hw5]; simp
      have m5 : w5.cell? ⟨w.heap.size + 1, 0, none⟩ = some (.slice AR R.length cR) := hcl.br.cell 0
      have hz5' := hz5
      have Hz5 := Lib.hid hz5'
      have hmm : ((w4.alloc (.cells #[.func (.func 125) #[] #[.pointer (some ⟨w.heap.size + 1, 0, none⟩)]] 99)).alloc (.cells #[.func (.func 128) #[] #[.pointer (some ⟨w.heap.size, 0, none⟩)]] 99)).cell? ⟨w.heap.size + 1, 0, none⟩ = some (.slice AR R.length cR) := by rw [← hw5]; exact m5
      clear hnx hcl hbw5 hw5 hb5 hb6 hB5 hS hrun hz5' hz5
      go_wp2_with fail
      rw [← Hw5.out]
      go_loopw [8, 27] (fun v t W => ∃ k : Nat, k ≤ R.length ∧ t = .int .i64 k ∧ Below w5.heap.size w5 W ∧ W.ownsRow w5.heap.size 33 3 v ((R.take k).filter (staysV L R)).length (((R.take k).filter (staysV L R)).flatMap CsV.cells)) (fun _ t W => R.length - (intOf t).toNat)
      case atStart => exact ⟨0, Nat.zero_le _, rfl, Below.refl _ _, World.ownsRow_nil _ _ _ _⟩
      case round =>
        obtain ⟨k, hk, rfl, hB, hown⟩ := hrel
        generalize wr = W at *
        obtain ⟨Av, cv, rfl, _⟩ := own_caps hown
        have hwz5 : w.heap.size + 1 < w5.heap.size := by have := Hz5.out; omega
        have hsW := hB.size
        by_cases hlt2 : k < R.length
        · obtain ⟨b, o, rfl, hb, hc⟩ := (Hcl.out.rr.keep hB) (by omega)
          obtain ⟨d0, d1, d2, _⟩ := hc k hlt2
          have hyes := fun h => filt_yes (p := staysV L R) hlt2 h
          have hno := fun h => filt_no (p := staysV L R) hlt2 h
          have hN := filt_len (p := staysV L R) (R := R) (k := k)
          have hbs : b < W.heap.size := World.block_lt_of_cell? W _ d0
          have hcalls := fun x => stays130 x (W.alloc (.cells #[.string R[k].c.unit, .slice R[k].n.a R[k].n.n R[k].n.c, .slice R[k].x.a R[k].x.n R[k].x.c] 33)) ((Hcl.out.below hB).below ((Below.refl _ _).alloc (Nat.le_refl _) _)) (fun y hy => Hx.out y (Hsub.out y hy))
          have hcall := hcalls R[k]
          have Hyes := Lib.hid hyes
          have Hno := Lib.hid hno
          have Hown := Lib.hid hown
          have HB := Lib.hid hB
          clear hc hyes hno hown hB hcalls m5 hmm hm0
          obtain ⟨i0, hi0, hz0, hz1, hz2⟩ := info_parts info33
          generalize (R.take k).filter (staysV L R) = N at *
          generalize hR : R[k] = x at *
          clear hR
          cases hq : staysV L R x with
          | true =>
            rw [hq] at hcall
            have Hn := Lib.hid (Hyes.out hq)
            have Hcall := Lib.hid hcall
            clear hcall hq Hyes Hno
            go_wp2_with fail
            refine Hcall.out.mono ?_
            rintro e W2 ⟨rfl, hb2⟩
            have hbW : Below W.heap.size W W2 := ((Below.refl _ W).alloc (Nat.le_refl _) (.cells #[.string x.c.unit, .slice x.n.a x.n.n x.n.c, .slice x.x.a x.x.n x.x.c] 33)).trans (hb2.mono (by simp))
            have hx2 := (Blk.new W 33 #[.string x.c.unit, .slice x.n.a x.n.n x.n.c, .slice x.x.a x.x.n x.x.c]).below hb2 (by simp)
            have e0 : W2.cell? ⟨W.heap.size, 0, none⟩ = some (.string x.c.unit) := hx2.cell 0
            have e1 : W2.cell? ⟨W.heap.size, 1, none⟩ = some (.slice x.n.a x.n.n x.n.c) := hx2.cell 1
            have e2 : W2.cell? ⟨W.heap.size, 2, none⟩ = some (.slice x.x.a x.x.n x.x.c) := hx2.cell 2
            have Hown2 := Lib.hid (own_keep Hown.out (below_grown (row := none) hbW) (fun r e => by cases e))
            have HB2 := Lib.hid (HB.out.trans (hbW.mono HB.out.size))
            clear hb2 hbW hx2 Hcall
            go_wp2_with (at_builtin; refine wpList_append_own _ rfl (.tmp 34) (.tmp 36) 22 rfl w5.heap.size 33 i0 (.agg #[.string ⟨#[]⟩, .slice none 0 0, .slice none 0 0]) 3 64 Tryz.underlying22 hi0 hz0 hz1 hz2 rfl (by decide) _ _ _ rfl (Hown2.out.alloc _) ⟨W2.heap.size, 0, none⟩ 1 1 [.string x.c.unit, .slice x.n.a x.n.n x.n.c, .slice x.x.a x.x.n x.x.c] rfl rfl ?c1 ?c2 ?c3 ?c4 ?c5 ?_)
            case c1 =>
              intro j u' hj
              rw [addr_add_none, Nat.zero_add, (Blk.new W2 33 #[.string x.c.unit, .slice x.n.a x.n.n x.n.c, .slice x.x.a x.x.n x.x.c]).cell j]
              simpa using hj
            case c2 => intro u' hu'; simp at hu'; rcases hu' with rfl | rfl | rfl <;> rfl
            case c3 => unfold maxLen; omega
            case c4 => omega
            case c5 => have := HB2.out.size; simp; omega
            intro v5 W5 hown5 hg5 _
            have hb5 := (HB2.out.alloc HB2.out.size (.cells #[.string x.c.unit, .slice x.n.a x.n.n x.n.c, .slice x.x.a x.x.n x.x.c] 33)).grown hg5 (by have := HB2.out.size; simp; omega) (fun g hg => ((Hown2.out.alloc (.cells #[.string x.c.unit, .slice x.n.a x.n.n x.n.c, .slice x.x.a x.x.n x.x.c] 33)).lt g hg).1)
            have HR := Lib.hid (And.intro hb5 hown5)
            clear hown5 hg5 hb5
            go_wp2_with fail
            go_roundw
            case rel => exact ⟨k + 1, by omega, by go_num, HR.out.1, by rw [Hn.out]; simpa [CsV.cells] using HR.out.2⟩
            case measure => simp [intOf]; omega
          | false =>
            rw [hq] at hcall
            have Hn := Lib.hid (Hno.out hq)
            have Hcall := Lib.hid hcall
            clear hcall hq Hyes Hno
            go_wp2_with fail
            refine Hcall.out.mono ?_
            rintro e W2 ⟨rfl, hb2⟩
            have hbW : Below W.heap.size W W2 := ((Below.refl _ W).alloc (Nat.le_refl _) (.cells #[.string x.c.unit, .slice x.n.a x.n.n x.n.c, .slice x.x.a x.x.n x.x.c] 33)).trans (hb2.mono (by simp))
            have Hown2 := Lib.hid (own_keep Hown.out (below_grown (row := none) hbW) (fun r e => by cases e))
            have HB2 := Lib.hid (HB.out.trans (hbW.mono HB.out.size))
            clear hb2 hbW Hcall
            go_wp2_with fail
            go_roundw
            case rel => exact ⟨k + 1, by omega, by go_num, HB2.out, by rw [Hn.out]; exact Hown2.out⟩
            case measure => simp [intOf]; omega
        · obtain rfl : k = R.length := by omega
          rw [List.take_length] at hown
          have hkW := Hcl.out.k.below hB (by omega)
          have hbrW := Hcl.out.br.below hB (by omega)
          have brc : W.cell? ⟨w.heap.size + 1, 0, none⟩ = some (.slice AR R.length cR) := hbrW.cell 0
          have brf : W.frozen? ⟨w.heap.size + 1, 0, none⟩ = false := hbrW.frozen 0
          have hNl : (R.filter (staysV L R)).length ≤ R.length := List.length_filter_le _ _
          have hsubN : ∀ x ∈ R.filter (staysV L R), x ∈ L := fun x hx => Hsub.out x (List.mem_filter.1 hx).1
          rw [show (List.filter (staysV L R) (List.take R.length R)).length = (R.filter (staysV L R)).length by rw [List.take_length]] at *
          have Hnx2 := Lib.hid Hnx.out
          have HsubN := Lib.hid hsubN
          have Hown := Lib.hid hown
          have HB := Lib.hid hB
          have HkW := Lib.hid hkW
          have HbrW := Lib.hid hbrW
          clear hown hB hkW hbrW hsubN m5 hmm hm0
          generalize R.filter (staysV L R) = N at *
          have hG := Gr.setCell (X := (· = w.heap.size + 1)) W ⟨w.heap.size + 1, 0, none⟩ (.slice Av N.length cv) rfl
          have hS2 : Below w.heap.size w (W.setCell ⟨w.heap.size + 1, 0, none⟩ (.slice Av N.length cv)) := (Hbw5.out.trans (HB.out.mono Hbw5.out.size)).setCell (by simp) _
          have hown2 := own_gr Hown.out hG (fun j hj e => by have := (Hown.out.lt j hj).1; omega)
          have hrr := rdCs_own hown2 (fun x hx => (Hrd.out x (HsubN.out x hx)).below hS2)
          have hst : CauR w g A L c Av N cv (W.setCell ⟨w.heap.size + 1, 0, none⟩ (.slice Av N.length cv)) :=
            ⟨hS2, HkW.out.far (by simp) _, by simpa using HbrW.out.set_ 0 (.slice Av N.length cv), hrr, HsubN.out, by omega⟩
          have hm1 := hst.br.cell 0
          have Hst := Lib.hid hst
          have Hm1 := Lib.hid hm1
          clear hG hS2 hown2 hrr hst hm1
          go_wp2_with fail
          go_roundw
          case rel => exact ⟨f', R.length, N, Av, cv, rfl, Hnx2, Hst.out, by omega⟩
          case measure =>
            rw [Hm1.out, Hm0.out, show (#[Value.slice Av N.length cv] : Array Value)[0]? = some (.slice Av N.length cv) from rfl, mesC_eq, mesC_eq, if_neg hn]
            split <;> omega
end Go.Proofs.YtnbnkhockoflgaaGreatDoor
/- format.Valid, and check.Check, on a configuration that holds small causes alone. -/
namespace Go.Proofs.YtnbnkhockoflgaaGreatDoor
open Go.ChangeShapes Go.WideShapes Go.ChangeAt Go.RowKit
attribute [local go_sem] Oper.semAt_some

set_option maxRecDepth 100000 in
set_option maxHeartbeats 2000000 in
theorem valid_c (hWo : WordOk) (A : Option Addr) (L : List CsV) (c : Nat) (w : World) (hr : RdCs w w.heap.size A L) (hl : L.length ≤ 32) (hok : ∀ x ∈ L, SmallC x.c) :
    Calls Tryz.prog 77 #[.agg #[.slice none 0 0, .slice none 0 0, .slice none 0 0, .slice none 0 0, .slice none 0 0, .slice none 0 0, .slice A L.length c, .slice none 0 0]] w fun e w' => e = .returned (.bool true) ∧ Below w.heap.size w w' := by
  obtain ⟨y0, hy0⟩ : ∃ y0, y0 = w.alloc (.cells #[.slice none 0 0, .slice none 0 0, .slice none 0 0, .slice none 0 0, .slice none 0 0, .slice none 0 0, .slice A L.length c, .slice none 0 0] 74) := ⟨_, rfl⟩
  have hB0 : Below w.heap.size w y0 := by rw [hy0]; exact (Below.refl _ _).alloc (Nat.le_refl _) _
  have hb0 : Blk y0 w.heap.size 74 #[.slice none 0 0, .slice none 0 0, .slice none 0 0, .slice none 0 0, .slice none 0 0, .slice none 0 0, .slice A L.length c, .slice none 0 0] := by rw [hy0]; exact Blk.new w _ _
  have hf : ∀ W, Below y0.heap.size y0 W → Blk W w.heap.size 74 #[.slice none 0 0, .slice none 0 0, .slice none 0 0, .slice none 0 0, .slice none 0 0, .slice none 0 0, .slice A L.length c, .slice none 0 0] := fun W hW => hb0.below hW hb0.lt
  have k0 : y0.cell? ⟨w.heap.size, 0, none⟩ = some (.slice none 0 0) := hb0.cell 0
  have Hf := Lib.hid hf
  have HY0 := Lib.hid (Below.refl y0.heap.size y0)
  have HB0 := Lib.hid hB0
  have Hy0 := Lib.hid hy0
  have Hr := Lib.hid (hr.below hB0)
  have Hok := Lib.hid hok
  clear hB0 hy0 hr hok hf hb0
  have k0' : (w.alloc (.cells #[.slice none 0 0, .slice none 0 0, .slice none 0 0, .slice none 0 0, .slice none 0 0, .slice none 0 0, .slice A L.length c, .slice none 0 0] 74)).cell? ⟨w.heap.size, 0, none⟩ = some (.slice none 0 0) := by rw [← Hy0.out]; exact k0
  clear k0
  go_enter Tryz.func77, Tryz.ntmps77
  go_wp2_with fail
  rw [← Hy0.out]
  refine (all0_150 _ _ _ _ _ _).mono ?_
  rintro e y1 ⟨rfl, hb⟩
  have HY1 := Lib.hid (HY0.out.trans (hb.mono HY0.out.size))
  clear hb k0'
  have k1 : y1.cell? ⟨w.heap.size, 1, none⟩ = some (.slice none 0 0) := (Hf.out _ HY1.out).cell 1
  go_wp2_with fail
  refine (all0_152 _ _ _ _ _ _).mono ?_
  rintro e y2 ⟨rfl, hb⟩
  have HY2 := Lib.hid (HY1.out.trans (hb.mono HY1.out.size))
  clear hb k1
  have k2 : y2.cell? ⟨w.heap.size, 2, none⟩ = some (.slice none 0 0) := (Hf.out _ HY2.out).cell 2
  go_wp2_with fail
  refine (all0_154 _ _ _ _ _ _).mono ?_
  rintro e y3 ⟨rfl, hb⟩
  have HY3 := Lib.hid (HY2.out.trans (hb.mono HY2.out.size))
  clear hb k2
  have k3 : y3.cell? ⟨w.heap.size, 3, none⟩ = some (.slice none 0 0) := (Hf.out _ HY3.out).cell 3
  go_wp2_with fail
  refine (all0_156 _ _ _ _ _ _).mono ?_
  rintro e y4 ⟨rfl, hb⟩
  have HY4 := Lib.hid (HY3.out.trans (hb.mono HY3.out.size))
  clear hb k3
  have k4 : y4.cell? ⟨w.heap.size, 4, none⟩ = some (.slice none 0 0) := (Hf.out _ HY4.out).cell 4
  go_wp2_with fail
  refine (all0_158 _ _ _ _ _ _).mono ?_
  rintro e y5 ⟨rfl, hb⟩
  have HY5 := Lib.hid (HY4.out.trans (hb.mono HY4.out.size))
  clear hb k4
  have k5 : y5.cell? ⟨w.heap.size, 5, none⟩ = some (.slice none 0 0) := (Hf.out _ HY5.out).cell 5
  go_wp2_with fail
  refine (all0_160 _ _ _ _ _ _).mono ?_
  rintro e y6 ⟨rfl, hb⟩
  have HY6 := Lib.hid (HY5.out.trans (hb.mono HY5.out.size))
  clear hb k5
  have k6 : y6.cell? ⟨w.heap.size, 6, none⟩ = some (.slice A L.length c) := (Hf.out _ HY6.out).cell 6
  go_wp2_with fail
  have hal := all_162 163 #[] (fun _ => true) (enters_of Tryz.func163 (by kernel_rfl) rfl) L A c y6 (fun W x hx hW hrd => by simpa using fcause_c hWo x W hrd (Hok.out x hx)) (Hr.out.below HY6.out) (by omega)
  rw [all_true (fun _ _ => rfl)] at hal
  have Hal := Lib.hid hal
  clear hal
  refine Hal.out.mono ?_
  rintro e y7 ⟨rfl, hb⟩
  have HY7 := Lib.hid (HY6.out.trans (hb.mono HY6.out.size))
  clear hb k6
  have k7 : y7.cell? ⟨w.heap.size, 7, none⟩ = some (.slice none 0 0) := (Hf.out _ HY7.out).cell 7
  go_wp2_with fail
  refine (all0_164 _ _ _ _ _ _).mono ?_
  rintro e y8 ⟨rfl, hb⟩
  have HY8 := Lib.hid (HY7.out.trans (hb.mono HY7.out.size))
  clear hb k7
  go_wp2_with fail
  go_ret
  exact ⟨rfl, HB0.out.trans (HY8.out.mono HB0.out.size)⟩
set_option maxRecDepth 100000 in
theorem form_c (hWo : WordOk) (g : Nat) (A : Option Addr) (L : List CsV) (c : Nat) (w : World) (h : CkB w g A L.length c) (hr : RdCs w w.heap.size A L) (hl : L.length ≤ 32) (hok : ∀ x ∈ L, SmallC x.c) :
    Calls Tryz.prog 58 #[.pointer (some ⟨g, 0, none⟩)] w fun e w' => e = .returned (.bool true) ∧ Below w.heap.size w w' := by
  have hv := valid_c hWo A L c w hr hl hok
  have k0 : w.cell? ⟨g, 0, none⟩ = some (.slice none 0 0) := h.cell 0
  have k1 : w.cell? ⟨g, 1, none⟩ = some (.slice none 0 0) := h.cell 1
  have k2 : w.cell? ⟨g, 2, none⟩ = some (.slice none 0 0) := h.cell 2
  have k3 : w.cell? ⟨g, 3, none⟩ = some (.slice none 0 0) := h.cell 3
  have k4 : w.cell? ⟨g, 4, none⟩ = some (.slice none 0 0) := h.cell 4
  have k5 : w.cell? ⟨g, 5, none⟩ = some (.slice none 0 0) := h.cell 5
  have k6 : w.cell? ⟨g, 6, none⟩ = some (.slice A L.length c) := h.cell 6
  have k7 : w.cell? ⟨g, 7, none⟩ = some (.slice none 0 0) := h.cell 7
  have Hv := Lib.hid hv
  clear hv h hr hok
  go_enter Tryz.func58, Tryz.ntmps58
  go_wp2_with fail
  refine Hv.out.mono ?_
  rintro e w1 ⟨rfl, hb1⟩
  go_wp2_with fail
  go_ret
  exact ⟨rfl, hb1⟩
set_option maxRecDepth 100000 in
set_option maxHeartbeats 4000000 in
theorem check_c (hWo : WordOk) (A : Option Addr) (L : List CsV) (c F : Nat) (w : World) (hr : RdCs w w.heap.size A L) (hl : L.length ≤ 32) (hok : ∀ x ∈ L, SmallC x.c) (hrd : ∀ x ∈ L, x.rd w w.heap.size) (hrun : runC L F (-1) L = true) :
    Calls Tryz.prog 41 #[.agg #[.slice none 0 0, .slice none 0 0, .slice none 0 0, .slice none 0 0, .slice none 0 0, .slice none 0 0, .slice A L.length c, .slice none 0 0]] w fun e w' => e = .returned (.int .i64 0) ∧ Below w.heap.size w w' := by
  obtain ⟨w1, hw1⟩ : ∃ w1, w1 = ((w.alloc (.cells #[.slice none 0 0, .slice none 0 0, .slice none 0 0, .slice none 0 0, .slice none 0 0, .slice none 0 0, .slice A L.length c, .slice none 0 0] 74)).alloc (.cells #[.slice none 0 0, .slice none 0 0, .slice none 0 0, .slice none 0 0, .slice none 0 0, .slice none 0 0, .slice A L.length c, .slice none 0 0] 116)).alloc (.cells #[.func (.func 58) #[.pointer (some ⟨w.heap.size + 1, 0, none⟩)] #[], .int .i64 100, .func (.func 59) #[.pointer (some ⟨w.heap.size + 1, 0, none⟩)] #[], .int .i64 101, .func (.func 60) #[.pointer (some ⟨w.heap.size + 1, 0, none⟩)] #[], .int .i64 102, .func (.func 61) #[.pointer (some ⟨w.heap.size + 1, 0, none⟩)] #[], .int .i64 103, .func (.func 62) #[.pointer (some ⟨w.heap.size + 1, 0, none⟩)] #[], .int .i64 104, .func (.func 63) #[.pointer (some ⟨w.heap.size + 1, 0, none⟩)] #[], .int .i64 105, .func (.func 64) #[.pointer (some ⟨w.heap.size + 1, 0, none⟩)] #[], .int .i64 106, .func (.func 65) #[.pointer (some ⟨w.heap.size + 1, 0, none⟩)] #[], .int .i64 107, .func (.func 66) #[.pointer (some ⟨w.heap.size + 1, 0, none⟩)] #[], .int .i64 108, .func (.func 67) #[.pointer (some ⟨w.heap.size + 1, 0, none⟩)] #[], .int .i64 109] 118) := ⟨_, rfl⟩
  have hB1 : Below w.heap.size w w1 := by rw [hw1]; exact (((Below.refl _ w).alloc (Nat.le_refl _) _).alloc (by simp) _).alloc (by simp; omega) _
  have hck : CkB w1 (w.heap.size + 1) A L.length c := by
    rw [hw1]
    have := Blk.new (w.alloc (.cells #[.slice none 0 0, .slice none 0 0, .slice none 0 0, .slice none 0 0, .slice none 0 0, .slice none 0 0, .slice A L.length c, .slice none 0 0] 74)) 116 #[.slice none 0 0, .slice none 0 0, .slice none 0 0, .slice none 0 0, .slice none 0 0, .slice none 0 0, .slice A L.length c, .slice none 0 0]
    rw [World.size_alloc] at this
    exact this.alloc _
  have hrow : Blk w1 (w.heap.size + 2) 118 #[.func (.func 58) #[.pointer (some ⟨w.heap.size + 1, 0, none⟩)] #[], .int .i64 100, .func (.func 59) #[.pointer (some ⟨w.heap.size + 1, 0, none⟩)] #[], .int .i64 101, .func (.func 60) #[.pointer (some ⟨w.heap.size + 1, 0, none⟩)] #[], .int .i64 102, .func (.func 61) #[.pointer (some ⟨w.heap.size + 1, 0, none⟩)] #[], .int .i64 103, .func (.func 62) #[.pointer (some ⟨w.heap.size + 1, 0, none⟩)] #[], .int .i64 104, .func (.func 63) #[.pointer (some ⟨w.heap.size + 1, 0, none⟩)] #[], .int .i64 105, .func (.func 64) #[.pointer (some ⟨w.heap.size + 1, 0, none⟩)] #[], .int .i64 106, .func (.func 65) #[.pointer (some ⟨w.heap.size + 1, 0, none⟩)] #[], .int .i64 107, .func (.func 66) #[.pointer (some ⟨w.heap.size + 1, 0, none⟩)] #[], .int .i64 108, .func (.func 67) #[.pointer (some ⟨w.heap.size + 1, 0, none⟩)] #[], .int .i64 109] := by
    rw [hw1]
    have := Blk.new ((w.alloc (.cells #[.slice none 0 0, .slice none 0 0, .slice none 0 0, .slice none 0 0, .slice none 0 0, .slice none 0 0, .slice A L.length c, .slice none 0 0] 74)).alloc (.cells #[.slice none 0 0, .slice none 0 0, .slice none 0 0, .slice none 0 0, .slice none 0 0, .slice none 0 0, .slice A L.length c, .slice none 0 0] 116)) 118 #[.func (.func 58) #[.pointer (some ⟨w.heap.size + 1, 0, none⟩)] #[], .int .i64 100, .func (.func 59) #[.pointer (some ⟨w.heap.size + 1, 0, none⟩)] #[], .int .i64 101, .func (.func 60) #[.pointer (some ⟨w.heap.size + 1, 0, none⟩)] #[], .int .i64 102, .func (.func 61) #[.pointer (some ⟨w.heap.size + 1, 0, none⟩)] #[], .int .i64 103, .func (.func 62) #[.pointer (some ⟨w.heap.size + 1, 0, none⟩)] #[], .int .i64 104, .func (.func 63) #[.pointer (some ⟨w.heap.size + 1, 0, none⟩)] #[], .int .i64 105, .func (.func 64) #[.pointer (some ⟨w.heap.size + 1, 0, none⟩)] #[], .int .i64 106, .func (.func 65) #[.pointer (some ⟨w.heap.size + 1, 0, none⟩)] #[], .int .i64 107, .func (.func 66) #[.pointer (some ⟨w.heap.size + 1, 0, none⟩)] #[], .int .i64 108, .func (.func 67) #[.pointer (some ⟨w.heap.size + 1, 0, none⟩)] #[], .int .i64 109]
    simpa only [World.size_alloc] using this
  have hsm : ∀ x ∈ L, x.c.excl.length ≤ 1000 := fun x hx => by have := (hok x hx).xl; omega
  have Hck := Lib.hid hck
  have Hrow := Lib.hid hrow
  have HB1 := Lib.hid hB1
  have Hr := Lib.hid (hr.below hB1)
  have Hok := Lib.hid hok
  have Hsm := Lib.hid hsm
  have Hrd := Lib.hid (fun x hx => (hrd x hx).below hB1)
  have Hrun := Lib.hid hrun
  have Hw1 := Lib.hid hw1
  clear hck hrow hB1 hr hok hrd hrun hw1 hsm
  have b0 := Blk.new w 74 #[.slice none 0 0, .slice none 0 0, .slice none 0 0, .slice none 0 0, .slice none 0 0, .slice none 0 0, .slice A L.length c, .slice none 0 0]
  have c0 : (w.alloc (.cells #[.slice none 0 0, .slice none 0 0, .slice none 0 0, .slice none 0 0, .slice none 0 0, .slice none 0 0, .slice A L.length c, .slice none 0 0] 74)).cell? ⟨w.heap.size, 0, none⟩ = some (.slice none 0 0) := b0.cell 0
  have c1 : (w.alloc (.cells #[.slice none 0 0, .slice none 0 0, .slice none 0 0, .slice none 0 0, .slice none 0 0, .slice none 0 0, .slice A L.length c, .slice none 0 0] 74)).cell? ⟨w.heap.size, 1, none⟩ = some (.slice none 0 0) := b0.cell 1
  have c2 : (w.alloc (.cells #[.slice none 0 0, .slice none 0 0, .slice none 0 0, .slice none 0 0, .slice none 0 0, .slice none 0 0, .slice A L.length c, .slice none 0 0] 74)).cell? ⟨w.heap.size, 2, none⟩ = some (.slice none 0 0) := b0.cell 2
  have c3 : (w.alloc (.cells #[.slice none 0 0, .slice none 0 0, .slice none 0 0, .slice none 0 0, .slice none 0 0, .slice none 0 0, .slice A L.length c, .slice none 0 0] 74)).cell? ⟨w.heap.size, 3, none⟩ = some (.slice none 0 0) := b0.cell 3
  have c4 : (w.alloc (.cells #[.slice none 0 0, .slice none 0 0, .slice none 0 0, .slice none 0 0, .slice none 0 0, .slice none 0 0, .slice A L.length c, .slice none 0 0] 74)).cell? ⟨w.heap.size, 4, none⟩ = some (.slice none 0 0) := b0.cell 4
  have c5 : (w.alloc (.cells #[.slice none 0 0, .slice none 0 0, .slice none 0 0, .slice none 0 0, .slice none 0 0, .slice none 0 0, .slice A L.length c, .slice none 0 0] 74)).cell? ⟨w.heap.size, 5, none⟩ = some (.slice none 0 0) := b0.cell 5
  have c6 : (w.alloc (.cells #[.slice none 0 0, .slice none 0 0, .slice none 0 0, .slice none 0 0, .slice none 0 0, .slice none 0 0, .slice A L.length c, .slice none 0 0] 74)).cell? ⟨w.heap.size, 6, none⟩ = some (.slice A L.length c) := b0.cell 6
  have c7 : (w.alloc (.cells #[.slice none 0 0, .slice none 0 0, .slice none 0 0, .slice none 0 0, .slice none 0 0, .slice none 0 0, .slice A L.length c, .slice none 0 0] 74)).cell? ⟨w.heap.size, 7, none⟩ = some (.slice none 0 0) := b0.cell 7
  clear b0
  go_enter Tryz.func41, Tryz.ntmps41
  go_wp2_with fail
  rw [← Hw1.out]
  go_loopw [41] (fun t wr => ∃ k : Nat, k ≤ 10 ∧ t = .int .i64 k ∧ Below w1.heap.size w1 wr) (fun t wr => 10 - (intOf t).toNat)
  case atStart => exact ⟨0, by omega, rfl, Below.refl _ _⟩
  case round =>
    obtain ⟨k, hk, rfl, hB⟩ := hrel
    clear c0 c1 c2 c3 c4 c5 c6 c7
    have hrow := Hrow.out.below hB Hrow.out.lt
    have hck := Blk.below Hck.out hB (Blk.lt Hck.out)
    have hsz : w.heap.size + 2 < wr.heap.size := hrow.lt
    have HB := Lib.hid hB
    have Hrowr := Lib.hid hrow
    have Hckr := Lib.hid hck
    clear hB hrow hck
    have h10 : k = 0 ∨ k = 1 ∨ k = 2 ∨ k = 3 ∨ k = 4 ∨ k = 5 ∨ k = 6 ∨ k = 7 ∨ k = 8 ∨ k = 9 ∨ k = 10 := by omega
    rcases h10 with rfl | rfl | rfl | rfl | rfl | rfl | rfl | rfl | rfl | rfl | rfl
    · have d0 : wr.cell? ⟨w.heap.size + 2, 0, none⟩ = some (.func (.func 58) #[.pointer (some ⟨w.heap.size + 1, 0, none⟩)] #[]) := Hrowr.out.cell 0
      have d1 : wr.cell? ⟨w.heap.size + 2, 1, none⟩ = some (.int .i64 100) := Hrowr.out.cell 1
      have hc := form_c hWo (w.heap.size + 1) A L c _ (Blk.below Hckr.out ((Below.refl wr.heap.size wr).alloc (Nat.le_refl _) (.cells #[.func (.func 58) #[.pointer (some ⟨w.heap.size + 1, 0, none⟩)] #[], .int .i64 100] 118)) (Blk.lt Hckr.out)) ((Hr.out.below HB.out).below ((Below.refl wr.heap.size wr).alloc (Nat.le_refl _) (.cells #[.func (.func 58) #[.pointer (some ⟨w.heap.size + 1, 0, none⟩)] #[], .int .i64 100] 118))) hl Hok.out
      have Hcc := Lib.hid hc
      clear hc
      go_wp2_with fail
      refine Hcc.out.mono ?_
      rintro e W2 ⟨rfl, hb2⟩
      have HB2 := Lib.hid (HB.out.trans (((Below.refl wr.heap.size wr).alloc (Nat.le_refl _) (.cells #[.func (.func 58) #[.pointer (some ⟨w.heap.size + 1, 0, none⟩)] #[], .int .i64 100] 118)).trans (hb2.mono (by simp)) |>.mono HB.out.size))
      clear hb2 Hcc
      go_wp2_with fail
      go_roundw
      case rel => exact ⟨1, by omega, by go_num, HB2.out⟩
      case measure => simp [intOf]
    · have d0 : wr.cell? ⟨w.heap.size + 2, 2, none⟩ = some (.func (.func 59) #[.pointer (some ⟨w.heap.size + 1, 0, none⟩)] #[]) := Hrowr.out.cell 2
      have d1 : wr.cell? ⟨w.heap.size + 2, 3, none⟩ = some (.int .i64 101) := Hrowr.out.cell 3
      have hc := limits_c (w.heap.size + 1) A L c _ (Blk.below Hckr.out ((Below.refl wr.heap.size wr).alloc (Nat.le_refl _) (.cells #[.func (.func 59) #[.pointer (some ⟨w.heap.size + 1, 0, none⟩)] #[], .int .i64 101] 118)) (Blk.lt Hckr.out)) ((Hr.out.below HB.out).below ((Below.refl wr.heap.size wr).alloc (Nat.le_refl _) (.cells #[.func (.func 59) #[.pointer (some ⟨w.heap.size + 1, 0, none⟩)] #[], .int .i64 101] 118))) hl Hok.out
      have Hcc := Lib.hid hc
      clear hc
      go_wp2_with fail
      refine Hcc.out.mono ?_
      rintro e W2 ⟨rfl, hb2⟩
      have HB2 := Lib.hid (HB.out.trans (((Below.refl wr.heap.size wr).alloc (Nat.le_refl _) (.cells #[.func (.func 59) #[.pointer (some ⟨w.heap.size + 1, 0, none⟩)] #[], .int .i64 101] 118)).trans (hb2.mono (by simp)) |>.mono HB.out.size))
      clear hb2 Hcc
      go_wp2_with fail
      go_roundw
      case rel => exact ⟨2, by omega, by go_num, HB2.out⟩
      case measure => simp [intOf]
    · have d0 : wr.cell? ⟨w.heap.size + 2, 4, none⟩ = some (.func (.func 60) #[.pointer (some ⟨w.heap.size + 1, 0, none⟩)] #[]) := Hrowr.out.cell 4
      have d1 : wr.cell? ⟨w.heap.size + 2, 5, none⟩ = some (.int .i64 102) := Hrowr.out.cell 5
      have hc := names_c (w.heap.size + 1) A L.length c _ (Blk.below Hckr.out ((Below.refl wr.heap.size wr).alloc (Nat.le_refl _) (.cells #[.func (.func 60) #[.pointer (some ⟨w.heap.size + 1, 0, none⟩)] #[], .int .i64 102] 118)) (Blk.lt Hckr.out))
      have Hcc := Lib.hid hc
      clear hc
      go_wp2_with fail
      refine Hcc.out.mono ?_
      rintro e W2 ⟨rfl, hb2⟩
      have HB2 := Lib.hid (HB.out.trans (((Below.refl wr.heap.size wr).alloc (Nat.le_refl _) (.cells #[.func (.func 60) #[.pointer (some ⟨w.heap.size + 1, 0, none⟩)] #[], .int .i64 102] 118)).trans (hb2.mono (by simp)) |>.mono HB.out.size))
      clear hb2 Hcc
      go_wp2_with fail
      go_roundw
      case rel => exact ⟨3, by omega, by go_num, HB2.out⟩
      case measure => simp [intOf]
    · have d0 : wr.cell? ⟨w.heap.size + 2, 6, none⟩ = some (.func (.func 61) #[.pointer (some ⟨w.heap.size + 1, 0, none⟩)] #[]) := Hrowr.out.cell 6
      have d1 : wr.cell? ⟨w.heap.size + 2, 7, none⟩ = some (.int .i64 103) := Hrowr.out.cell 7
      have hc := times_c (w.heap.size + 1) A L.length c _ (Blk.below Hckr.out ((Below.refl wr.heap.size wr).alloc (Nat.le_refl _) (.cells #[.func (.func 61) #[.pointer (some ⟨w.heap.size + 1, 0, none⟩)] #[], .int .i64 103] 118)) (Blk.lt Hckr.out))
      have Hcc := Lib.hid hc
      clear hc
      go_wp2_with fail
      refine Hcc.out.mono ?_
      rintro e W2 ⟨rfl, hb2⟩
      have HB2 := Lib.hid (HB.out.trans (((Below.refl wr.heap.size wr).alloc (Nat.le_refl _) (.cells #[.func (.func 61) #[.pointer (some ⟨w.heap.size + 1, 0, none⟩)] #[], .int .i64 103] 118)).trans (hb2.mono (by simp)) |>.mono HB.out.size))
      clear hb2 Hcc
      go_wp2_with fail
      go_roundw
      case rel => exact ⟨4, by omega, by go_num, HB2.out⟩
      case measure => simp [intOf]
    · have d0 : wr.cell? ⟨w.heap.size + 2, 8, none⟩ = some (.func (.func 62) #[.pointer (some ⟨w.heap.size + 1, 0, none⟩)] #[]) := Hrowr.out.cell 8
      have d1 : wr.cell? ⟨w.heap.size + 2, 9, none⟩ = some (.int .i64 104) := Hrowr.out.cell 9
      have hc := codes_c (w.heap.size + 1) A L.length c _ (Blk.below Hckr.out ((Below.refl wr.heap.size wr).alloc (Nat.le_refl _) (.cells #[.func (.func 62) #[.pointer (some ⟨w.heap.size + 1, 0, none⟩)] #[], .int .i64 104] 118)) (Blk.lt Hckr.out))
      have Hcc := Lib.hid hc
      clear hc
      go_wp2_with fail
      refine Hcc.out.mono ?_
      rintro e W2 ⟨rfl, hb2⟩
      have HB2 := Lib.hid (HB.out.trans (((Below.refl wr.heap.size wr).alloc (Nat.le_refl _) (.cells #[.func (.func 62) #[.pointer (some ⟨w.heap.size + 1, 0, none⟩)] #[], .int .i64 104] 118)).trans (hb2.mono (by simp)) |>.mono HB.out.size))
      clear hb2 Hcc
      go_wp2_with fail
      go_roundw
      case rel => exact ⟨5, by omega, by go_num, HB2.out⟩
      case measure => simp [intOf]
    · have d0 : wr.cell? ⟨w.heap.size + 2, 10, none⟩ = some (.func (.func 63) #[.pointer (some ⟨w.heap.size + 1, 0, none⟩)] #[]) := Hrowr.out.cell 10
      have d1 : wr.cell? ⟨w.heap.size + 2, 11, none⟩ = some (.int .i64 105) := Hrowr.out.cell 11
      have hc := links_c (w.heap.size + 1) A L.length c _ (Blk.below Hckr.out ((Below.refl wr.heap.size wr).alloc (Nat.le_refl _) (.cells #[.func (.func 63) #[.pointer (some ⟨w.heap.size + 1, 0, none⟩)] #[], .int .i64 105] 118)) (Blk.lt Hckr.out))
      have Hcc := Lib.hid hc
      clear hc
      go_wp2_with fail
      refine Hcc.out.mono ?_
      rintro e W2 ⟨rfl, hb2⟩
      have HB2 := Lib.hid (HB.out.trans (((Below.refl wr.heap.size wr).alloc (Nat.le_refl _) (.cells #[.func (.func 63) #[.pointer (some ⟨w.heap.size + 1, 0, none⟩)] #[], .int .i64 105] 118)).trans (hb2.mono (by simp)) |>.mono HB.out.size))
      clear hb2 Hcc
      go_wp2_with fail
      go_roundw
      case rel => exact ⟨6, by omega, by go_num, HB2.out⟩
      case measure => simp [intOf]
    · have d0 : wr.cell? ⟨w.heap.size + 2, 12, none⟩ = some (.func (.func 64) #[.pointer (some ⟨w.heap.size + 1, 0, none⟩)] #[]) := Hrowr.out.cell 12
      have d1 : wr.cell? ⟨w.heap.size + 2, 13, none⟩ = some (.int .i64 106) := Hrowr.out.cell 13
      have hc := ports_c (w.heap.size + 1) A L.length c _ (Blk.below Hckr.out ((Below.refl wr.heap.size wr).alloc (Nat.le_refl _) (.cells #[.func (.func 64) #[.pointer (some ⟨w.heap.size + 1, 0, none⟩)] #[], .int .i64 106] 118)) (Blk.lt Hckr.out))
      have Hcc := Lib.hid hc
      clear hc
      go_wp2_with fail
      refine Hcc.out.mono ?_
      rintro e W2 ⟨rfl, hb2⟩
      have HB2 := Lib.hid (HB.out.trans (((Below.refl wr.heap.size wr).alloc (Nat.le_refl _) (.cells #[.func (.func 64) #[.pointer (some ⟨w.heap.size + 1, 0, none⟩)] #[], .int .i64 106] 118)).trans (hb2.mono (by simp)) |>.mono HB.out.size))
      clear hb2 Hcc
      go_wp2_with fail
      go_roundw
      case rel => exact ⟨7, by omega, by go_num, HB2.out⟩
      case measure => simp [intOf]
    · have d0 : wr.cell? ⟨w.heap.size + 2, 14, none⟩ = some (.func (.func 65) #[.pointer (some ⟨w.heap.size + 1, 0, none⟩)] #[]) := Hrowr.out.cell 14
      have d1 : wr.cell? ⟨w.heap.size + 2, 15, none⟩ = some (.int .i64 107) := Hrowr.out.cell 15
      have hc := vls_c (w.heap.size + 1) A L.length c _ (Blk.below Hckr.out ((Below.refl wr.heap.size wr).alloc (Nat.le_refl _) (.cells #[.func (.func 65) #[.pointer (some ⟨w.heap.size + 1, 0, none⟩)] #[], .int .i64 107] 118)) (Blk.lt Hckr.out))
      have Hcc := Lib.hid hc
      clear hc
      go_wp2_with fail
      refine Hcc.out.mono ?_
      rintro e W2 ⟨rfl, hb2⟩
      have HB2 := Lib.hid (HB.out.trans (((Below.refl wr.heap.size wr).alloc (Nat.le_refl _) (.cells #[.func (.func 65) #[.pointer (some ⟨w.heap.size + 1, 0, none⟩)] #[], .int .i64 107] 118)).trans (hb2.mono (by simp)) |>.mono HB.out.size))
      clear hb2 Hcc
      go_wp2_with fail
      go_roundw
      case rel => exact ⟨8, by omega, by go_num, HB2.out⟩
      case measure => simp [intOf]
    · have d0 : wr.cell? ⟨w.heap.size + 2, 16, none⟩ = some (.func (.func 66) #[.pointer (some ⟨w.heap.size + 1, 0, none⟩)] #[]) := Hrowr.out.cell 16
      have d1 : wr.cell? ⟨w.heap.size + 2, 17, none⟩ = some (.int .i64 108) := Hrowr.out.cell 17
      have hc := rows_c (w.heap.size + 1) A L.length c _ (Blk.below Hckr.out ((Below.refl wr.heap.size wr).alloc (Nat.le_refl _) (.cells #[.func (.func 66) #[.pointer (some ⟨w.heap.size + 1, 0, none⟩)] #[], .int .i64 108] 118)) (Blk.lt Hckr.out))
      have Hcc := Lib.hid hc
      clear hc
      go_wp2_with fail
      refine Hcc.out.mono ?_
      rintro e W2 ⟨rfl, hb2⟩
      have HB2 := Lib.hid (HB.out.trans (((Below.refl wr.heap.size wr).alloc (Nat.le_refl _) (.cells #[.func (.func 66) #[.pointer (some ⟨w.heap.size + 1, 0, none⟩)] #[], .int .i64 108] 118)).trans (hb2.mono (by simp)) |>.mono HB.out.size))
      clear hb2 Hcc
      go_wp2_with fail
      go_roundw
      case rel => exact ⟨9, by omega, by go_num, HB2.out⟩
      case measure => simp [intOf]
    · have d0 : wr.cell? ⟨w.heap.size + 2, 18, none⟩ = some (.func (.func 67) #[.pointer (some ⟨w.heap.size + 1, 0, none⟩)] #[]) := Hrowr.out.cell 18
      have d1 : wr.cell? ⟨w.heap.size + 2, 19, none⟩ = some (.int .i64 109) := Hrowr.out.cell 19
      have hc := causes_c (w.heap.size + 1) A L c F _ (Blk.below Hckr.out ((Below.refl wr.heap.size wr).alloc (Nat.le_refl _) (.cells #[.func (.func 67) #[.pointer (some ⟨w.heap.size + 1, 0, none⟩)] #[], .int .i64 109] 118)) (Blk.lt Hckr.out)) ((Hr.out.below HB.out).below ((Below.refl wr.heap.size wr).alloc (Nat.le_refl _) (.cells #[.func (.func 67) #[.pointer (some ⟨w.heap.size + 1, 0, none⟩)] #[], .int .i64 109] 118))) (by omega) Hsm.out (fun x hx => ((Hrd.out x hx).below HB.out).below ((Below.refl wr.heap.size wr).alloc (Nat.le_refl _) (.cells #[.func (.func 67) #[.pointer (some ⟨w.heap.size + 1, 0, none⟩)] #[], .int .i64 109] 118))) Hrun.out
      have Hcc := Lib.hid hc
      clear hc
      go_wp2_with fail
      refine Hcc.out.mono ?_
      rintro e W2 ⟨rfl, hb2⟩
      have HB2 := Lib.hid (HB.out.trans (((Below.refl wr.heap.size wr).alloc (Nat.le_refl _) (.cells #[.func (.func 67) #[.pointer (some ⟨w.heap.size + 1, 0, none⟩)] #[], .int .i64 109] 118)).trans (hb2.mono (by simp)) |>.mono HB.out.size))
      clear hb2 Hcc
      go_wp2_with fail
      go_roundw
      case rel => exact ⟨10, by omega, by go_num, HB2.out⟩
      case measure => simp [intOf]
    · go_wp2_with fail
      go_ret
      exact ⟨rfl, HB1.out.trans (HB.out.mono HB1.out.size)⟩
end Go.Proofs.YtnbnkhockoflgaaGreatDoor
