/- Texts R8 R7 R2, joined. -/
import Derived.Test.YtknojjlfgjkbiaaGreatDoorH28
import Derived.Test.YtknojjlfgjkbiaaGreatDoorH21
import Derived.Test.YtknojjlfgjkbiaaGreatDoorH23
import Derived.Test.YtknojjlfgjkbiaaGreatDoorH17
import Derived.Test.YtknojjlfgjkbiaaGreatDoorH08
set_option linter.unusedSimpArgs false
set_option linter.unusedVariables false
set_option linter.unusedSectionVars false
/- The reference's parser: item, at a cause. -/
namespace Go.Proofs.YtknojjlfgjkbiaaGreatDoor
open Go.ChangeShapes Go.WideShapes Go.ChangeAt Go.RowKit
attribute [local go_sem] Oper.semAt_some

def sCause : ByteArray := ⟨#[99, 97, 117, 115, 101]⟩
/-- a change of one block that is no row of causes, strings, reports. -/
theorem NewSt.gr {w W W' : World} {B k : Nat} {L : List CsV} {v : Value} {t : TypeId} {cs : Array Value} (h : NewSt w B L v W) (hG : Gr (· = k) W W') (hk : B ≤ k) (hb : Blk W k t cs) (h1 : t ≠ 29) (h2 : t ≠ 32) (h3 : t ≠ 9) : NewSt w B L v W' := by
  have hg : W.grownBy W' (some k) := ⟨hG.os, hG.tape, hG.output, hG.size, fun i hi hn => hG.block i hi (fun e => hn (by rw [e]))⟩
  refine ⟨h.below.grown hg h.size (fun j e => by cases e; exact hk), Nat.le_trans h.size hG.size, own_gr h.own hG (fun j hj e => own_blk_ne h.own hb (Ne.symm h1) (e ▸ hj)), fun x hx => (h.subs x hx).kept hg (fun r e => by cases e; exact ⟨cs, t, hb, h2, h3⟩)⟩
theorem OwnCs.base {W : World} {B B' : Nat} {x : CsV} (h : OwnCs W B x) (hb : B' ≤ B) : OwnCs W B' x := ⟨h.nl, h.nc, h.nm, own_base h.n hb, h.xl, h.xc, h.xm, own_base h.x hb⟩
/-- the eight fields of a configuration stored. -/
def set8 (W : World) (b : Nat) (v : Value) : World :=
  (((((((W.setCell ⟨b, 0, none⟩ (.slice none 0 0)).setCell ⟨b, 1, none⟩ (.slice none 0 0)).setCell ⟨b, 2, none⟩ (.slice none 0 0)).setCell ⟨b, 3, none⟩ (.slice none 0 0)).setCell ⟨b, 4, none⟩ (.slice none 0 0)).setCell ⟨b, 5, none⟩ (.slice none 0 0)).setCell ⟨b, 6, none⟩ v).setCell ⟨b, 7, none⟩ (.slice none 0 0)
theorem set8_blk {W : World} {b : Nat} {v x0 x1 x2 x3 x4 x5 x6 x7 : Value} (h : Blk W b 53 #[x0, x1, x2, x3, x4, x5, x6, x7]) : Blk (set8 W b v) b 53 #[.slice none 0 0, .slice none 0 0, .slice none 0 0, .slice none 0 0, .slice none 0 0, .slice none 0 0, v, .slice none 0 0] := by
  unfold set8
  simpa using (((((((h.set_ 0 (.slice none 0 0)).set_ 1 (.slice none 0 0)).set_ 2 (.slice none 0 0)).set_ 3 (.slice none 0 0)).set_ 4 (.slice none 0 0)).set_ 5 (.slice none 0 0)).set_ 6 v).set_ 7 (.slice none 0 0)
theorem set8_gr (W : World) (b : Nat) (v : Value) : Gr (· = b) W (set8 W b v) := by
  unfold set8
  exact (((((((Gr.setCell (X := (· = b)) W ⟨b, 0, none⟩ _ rfl).trans (Gr.setCell (X := (· = b)) _ ⟨b, 1, none⟩ _ rfl)).trans (Gr.setCell (X := (· = b)) _ ⟨b, 2, none⟩ _ rfl)).trans (Gr.setCell (X := (· = b)) _ ⟨b, 3, none⟩ _ rfl)).trans (Gr.setCell (X := (· = b)) _ ⟨b, 4, none⟩ _ rfl)).trans (Gr.setCell (X := (· = b)) _ ⟨b, 5, none⟩ _ rfl)).trans (Gr.setCell (X := (· = b)) _ ⟨b, 6, none⟩ _ rfl)).trans (Gr.setCell (X := (· = b)) _ ⟨b, 7, none⟩ _ rfl)
theorem noSee0 {t : Tok} (hk : t.kind = 1) (ht : t.text = sCause) : seesB t ⟨#[109, 111, 100, 117, 108, 101]⟩ = false := by unfold seesB; rw [hk, ht]; kernel_rfl
theorem noSee1 {t : Tok} (hk : t.kind = 1) (ht : t.text = sCause) : seesB t ⟨#[99, 104, 97, 110, 110, 101, 108]⟩ = false := by unfold seesB; rw [hk, ht]; kernel_rfl
theorem noSee2 {t : Tok} (hk : t.kind = 1) (ht : t.text = sCause) : seesB t ⟨#[115, 119, 105, 116, 99, 104]⟩ = false := by unfold seesB; rw [hk, ht]; kernel_rfl
theorem noSee3 {t : Tok} (hk : t.kind = 1) (ht : t.text = sCause) : seesB t ⟨#[108, 105, 110, 107]⟩ = false := by unfold seesB; rw [hk, ht]; kernel_rfl
theorem noSee4 {t : Tok} (hk : t.kind = 1) (ht : t.text = sCause) : seesB t ⟨#[118, 108]⟩ = false := by unfold seesB; rw [hk, ht]; kernel_rfl
theorem noSee5 {t : Tok} (hk : t.kind = 1) (ht : t.text = sCause) : seesB t ⟨#[111, 110]⟩ = false := by unfold seesB; rw [hk, ht]; kernel_rfl
theorem seeCause {t : Tok} (hk : t.kind = 1) (ht : t.text = sCause) : seesB t ⟨#[99, 97, 117, 115, 101]⟩ = true := by unfold seesB; rw [hk, ht]; kernel_rfl
set_option maxRecDepth 100000 in
set_option maxHeartbeats 4000000 in
theorem item_c (w00 : World) (L : List CsV) (Av : Option Addr) (cv : Nat) (cs : Cs) (g : Nat) (A : Option Addr) (c : Nat) (ts : List Tok) (now : Nat) (sz : Int) (w : World) (h : InB w g A c ts now sz) (hl : ts.length ≤ 100000)
    (hs : NewSt w00 w00.heap.size L (.slice Av L.length cv) w) (hgB : w00.heap.size ≤ g) (hn : now < ts.length) (hk : (ts[now]'hn).kind = 1) (ht : (ts[now]'hn).text = sCause) (hc : CauseAt ts (now + 1) cs) (hL : L.length ≤ 1000)
    (ho : w.ownsRow (g + 1) 29 3 (.slice Av L.length cv) L.length (L.flatMap CsV.cells)) :
    Calls Tryz.prog 83 #[.pointer (some ⟨g, 0, none⟩), .agg #[.slice none 0 0, .slice none 0 0, .slice none 0 0, .slice none 0 0, .slice none 0 0, .slice none 0 0, .slice Av L.length cv, .slice none 0 0]] w fun e w' => ∃ A' c' x, e = .returned (.agg #[.slice none 0 0, .slice none 0 0, .slice none 0 0, .slice none 0 0, .slice none 0 0, .slice none 0 0, .slice A' (L.length + 1) c', .slice none 0 0]) ∧
      x.c = cs ∧ NewSt w00 w00.heap.size (L ++ [x]) (.slice A' (L.length + 1) c') w' ∧ InB w' g A c ts (now + 1 + 2 + 4 * cs.needs.length + 2 * cs.excl.length) sz ∧ w'.ownsRow (g + 1) 29 3 (.slice A' (L.length + 1) c') (L.length + 1) ((L ++ [x]).flatMap CsV.cells) ∧ Gr (fun k => k = g ∨ (Value.slice Av L.length cv).ownBlock = some k) w w' := by
  obtain ⟨w1, hw1⟩ : ∃ w1, w1 = (w.alloc (.cells #[.slice none 0 0, .slice none 0 0, .slice none 0 0, .slice none 0 0, .slice none 0 0, .slice none 0 0, .slice Av L.length cv, .slice none 0 0] 53)).alloc (.cells #[.slice none 0 0, .slice none 0 0, .slice none 0 0, .slice none 0 0, .slice none 0 0, .slice none 0 0, .slice none 0 0, .slice none 0 0] 53) := ⟨_, rfl⟩
  have hB1 : Below w.heap.size w w1 := by rw [hw1]; exact ((Below.refl _ w).alloc (Nat.le_refl _) _).alloc (by simp) _
  have hcb : Blk w1 w.heap.size 53 #[.slice none 0 0, .slice none 0 0, .slice none 0 0, .slice none 0 0, .slice none 0 0, .slice none 0 0, .slice Av L.length cv, .slice none 0 0] := by rw [hw1]; exact (Blk.new w _ _).alloc _
  have hrb : Blk w1 (w.heap.size + 1) 53 #[.slice none 0 0, .slice none 0 0, .slice none 0 0, .slice none 0 0, .slice none 0 0, .slice none 0 0, .slice none 0 0, .slice none 0 0] := by
    rw [hw1]
    have := Blk.new (w.alloc (.cells #[.slice none 0 0, .slice none 0 0, .slice none 0 0, .slice none 0 0, .slice none 0 0, .slice none 0 0, .slice Av L.length cv, .slice none 0 0] 53)) 53 #[.slice none 0 0, .slice none 0 0, .slice none 0 0, .slice none 0 0, .slice none 0 0, .slice none 0 0, .slice none 0 0, .slice none 0 0]
    rwa [World.size_alloc] at this
  have HI := Lib.hid (h.below hB1)
  have HS := Lib.hid (hs.next (hB1))
  have Hc := Lib.hid hc
  have Hw1 := Lib.hid hw1
  have HB1 := Lib.hid hB1
  have Hcb := Lib.hid hcb
  have Hrb := Lib.hid hrb
  have Hk := Lib.hid hk
  have Ht := Lib.hid ht
  have Ho := Lib.hid ho
  have hglt := h.lt
  have hsz := hs.size
  clear h hs hc hw1 hB1 hcb hrb hk ht ho
  have h0 := is_no ⟨#[109, 111, 100, 117, 108, 101]⟩ w1 HI.out hn hl (noSee0 Hk.out Ht.out)
  have H0 := Lib.hid h0
  clear h0
  go_enter Tryz.func83, Tryz.ntmps83
  go_wp2_with fail
  rw [← Hw1.out]
  refine H0.out.mono ?_
  rintro e y0 ⟨rfl, hb⟩
  have HY0 := Lib.hid hb
  clear hb H0
  have h1 := is_no ⟨#[99, 104, 97, 110, 110, 101, 108]⟩ y0 (HI.out.below HY0.out) hn hl (noSee1 Hk.out Ht.out)
  have H1 := Lib.hid h1
  clear h1
  go_wp2_with fail
  refine H1.out.mono ?_
  rintro e y1 ⟨rfl, hb⟩
  have HY1 := Lib.hid (HY0.out.trans (hb.mono HY0.out.size))
  clear hb H1
  have h2 := is_no ⟨#[115, 119, 105, 116, 99, 104]⟩ y1 (HI.out.below HY1.out) hn hl (noSee2 Hk.out Ht.out)
  have H2 := Lib.hid h2
  clear h2
  go_wp2_with fail
  refine H2.out.mono ?_
  rintro e y2 ⟨rfl, hb⟩
  have HY2 := Lib.hid (HY1.out.trans (hb.mono HY1.out.size))
  clear hb H2
  have h3 := is_no ⟨#[108, 105, 110, 107]⟩ y2 (HI.out.below HY2.out) hn hl (noSee3 Hk.out Ht.out)
  have H3 := Lib.hid h3
  clear h3
  go_wp2_with fail
  refine H3.out.mono ?_
  rintro e y3 ⟨rfl, hb⟩
  have HY3 := Lib.hid (HY2.out.trans (hb.mono HY2.out.size))
  clear hb H3
  have h4 := is_no ⟨#[118, 108]⟩ y3 (HI.out.below HY3.out) hn hl (noSee4 Hk.out Ht.out)
  have H4 := Lib.hid h4
  clear h4
  go_wp2_with fail
  refine H4.out.mono ?_
  rintro e y4 ⟨rfl, hb⟩
  have HY4 := Lib.hid (HY3.out.trans (hb.mono HY3.out.size))
  clear hb H4
  have h5 := is_no ⟨#[111, 110]⟩ y4 (HI.out.below HY4.out) hn hl (noSee5 Hk.out Ht.out)
  have H5 := Lib.hid h5
  clear h5
  go_wp2_with fail
  refine H5.out.mono ?_
  rintro e y5 ⟨rfl, hb⟩
  have HY5 := Lib.hid (HY4.out.trans (hb.mono HY4.out.size))
  clear hb H5
  have h6 := is_yes ⟨#[99, 97, 117, 115, 101]⟩ y5 (HI.out.below HY5.out) hn hl (seeCause Hk.out Ht.out)
  have H6 := Lib.hid h6
  clear h6
  go_wp2_with fail
  refine H6.out.mono ?_
  rintro e y6 ⟨rfl, hI6, hG6⟩
  have hg1 : Gr (· = g) w1 y6 := (Gr.of_below HY5.out).trans hG6
  have HG6 := Lib.hid hg1
  have hS6 := HS.out.gr hg1 hgB HI.out.blk (by decide) (by decide) (by decide)
  have hcb6 : Blk y6 w.heap.size 53 #[.slice none 0 0, .slice none 0 0, .slice none 0 0, .slice none 0 0, .slice none 0 0, .slice none 0 0, .slice Av L.length cv, .slice none 0 0] := hg1.blk Hcb.out (by omega)
  have hrb6 : Blk y6 (w.heap.size + 1) 53 #[.slice none 0 0, .slice none 0 0, .slice none 0 0, .slice none 0 0, .slice none 0 0, .slice none 0 0, .slice none 0 0, .slice none 0 0] := hg1.blk Hrb.out (by omega)
  have HI6 := Lib.hid (hI6.below (w' := y6.drew) (Below.refl _ _).drew)
  have HS6 := Lib.hid (hS6.next (W' := y6.drew) (Below.refl _ _).drew)
  have Hcb6 := Lib.hid hcb6
  have Hrb6 := Lib.hid hrb6
  have hx6 : y6.drew.cell? ⟨w.heap.size, 6, none⟩ = some (.slice Av L.length cv) := hcb6.cell 6
  have hca := cause_c cs g A c ts (now + 1) sz y6.drew HI6.out hl Hc.out
  have Hca := Lib.hid hca
  clear hI6 hG6 hg1 hS6 hcb6 hrb6 H6 hca
  go_wp2_with fail
  refine wp_region_S (fun W' => W'.cell? ⟨w.heap.size, 6, none⟩ = some (.slice Av L.length cv)) 7 (by kernel_rfl) hx6 (fun hHeld => ?_)
  refine wpAnyS_take (i := 0) (v := ?_) rfl (by kernel_rfl) (by kernel_rfl) (by kernel_rfl) (by kernel_rfl) (fun c a w h => h) (Or.inl ⟨by rfl, ?_⟩) hHeld ?_
  rotate_left
  · intro w hSw
    go_simp
    first | done | with_reducible rfl
  simp only [Act.put, List.setIfInBounds_toArray, List.set_cons_zero, List.set_cons_succ]
  refine wpAnyS_take (i := 1) (v := ?_) rfl (by kernel_rfl) (by kernel_rfl) (by kernel_rfl) (by kernel_rfl) (fun c a w h => h) (Or.inl ⟨by rfl, ?_⟩) hHeld ?_
  rotate_left
  · intro w hSw
    go_simp
    first | done | with_reducible rfl
  simp only [Act.put, List.setIfInBounds_toArray, List.set_cons_zero, List.set_cons_succ]
  refine wpAnyS_take (i := 2) (v := ?_) rfl (by kernel_rfl) (by kernel_rfl) (by kernel_rfl) (by kernel_rfl) (fun c a w h => h) (Or.inl ⟨by rfl, ?_⟩) hHeld ?_
  rotate_left
  · intro w hSw
    go_simp
    first | done | with_reducible rfl
  simp only [Act.put, List.setIfInBounds_toArray, List.set_cons_zero, List.set_cons_succ]
  refine wpAnyS_ready (rs := [3]) (by kernel_rfl) (by simp) ?_
  refine AllReadyS.cons rfl (fun K hK => ?_) AllReadyS.nil
  go_simp
  refine Hca.out.mono ?_
  rintro e W10 ⟨An, cn, Ax, cx, rfl, hox, hI10, hG10⟩
  have hb10 : Blk W10 w.heap.size 53 #[.slice none 0 0, .slice none 0 0, .slice none 0 0, .slice none 0 0, .slice none 0 0, .slice none 0 0, .slice Av L.length cv, .slice none 0 0] := hG10.blk (show Blk y6.drew _ _ _ from Hcb6.out) (by omega)
  have HS10 := Lib.hid (HS6.out.gr hG10 hgB HI6.out.blk (by decide) (by decide) (by decide))
  have hs6 : w00.heap.size ≤ y6.drew.heap.size := HS6.out.size
  have Hox := Lib.hid (hox.base hs6)
  have HI10 := Lib.hid hI10
  have HG10 := Lib.hid hG10
  have hGw : Gr (· = g) w W10 := (((Gr.of_below HB1.out).trans HG6.out).trans (Gr.of_below (Below.refl _ y6).drew)).trans hG10
  have HGw := Lib.hid hGw
  have Ho10 := Lib.hid (own_gr Ho.out hGw (fun k hk e => by have := (Ho.out.lt k hk).1; omega))
  have Hb10 := Lib.hid hb10
  have hHeld10 : W10.cell? ⟨w.heap.size, 6, none⟩ = some (.slice Av L.length cv) := hb10.cell 6
  refine hK.out _ _ (fun _ => hHeld10) ?_
  clear hK hHeld hI10 hG10 hb10 hox hGw
  refine wpAnyS_ready (rs := [4]) (by kernel_rfl) (by simp) ?_
  refine AllReadyS.cons rfl (fun K hK => ?_) AllReadyS.nil
  go_simp
  have hHeld11 : (W10.alloc (.cells #[.string cs.unit, .slice An cs.needs.length cn, .slice Ax cs.excl.length cx] 29)).cell? ⟨w.heap.size, 6, none⟩ = some (.slice Av L.length cv) := (Hb10.out.alloc _).cell 6
  refine hK.out _ _ (fun _ => hHeld11) ?_
  clear hK hHeld10
  obtain ⟨j0, hj0, hy0, hy1, hy2⟩ := info_parts info33
  refine wpAnyS_ready (rs := [5]) (by kernel_rfl) (by simp) ?_
  refine AllReadyS.cons rfl (fun K hK => ?_) AllReadyS.nil
  refine step_append_own (by rfl) (.tmp 131) (.tmp 134) 22 (by rfl) (g + 1) 29 j0 (.agg #[.string ⟨#[]⟩, .slice none 0 0, .slice none 0 0]) 3 64 Tryz.underlying22 hj0 hy0 hy1 hy2 rfl (by decide) (.slice Av L.length cv) L.length _ (by rfl) (Ho10.out.alloc _) ⟨W10.heap.size, 0, none⟩ 1 1 [.string cs.unit, .slice An cs.needs.length cn, .slice Ax cs.excl.length cx] (by rfl) (by rfl) ?c1 ?c2 ?c3 ?c4 ?c5 ?_
  case c1 =>
    intro j u' hj
    rw [addr_add_none, Nat.zero_add, (Blk.new W10 29 #[.string cs.unit, .slice An cs.needs.length cn, .slice Ax cs.excl.length cx]).cell j]
    simpa using hj
  case c2 => intro u' hu'; simp at hu'; rcases hu' with rfl | rfl | rfl <;> rfl
  case c3 => unfold maxLen; omega
  case c4 => omega
  case c5 => have := HI10.out.lt; simp; omega
  intro v12 W12 hown12 hg12
  have hgrx : Gr (fun j => (Value.slice Av L.length cv).ownBlock = some j) (W10.alloc (.cells #[.string cs.unit, .slice An cs.needs.length cn, .slice Ax cs.excl.length cx] 29)) W12 := Gr.of_grown hg12 (fun j e => e)
  have hownA := HS10.out.own.alloc (.cells #[.string cs.unit, .slice An cs.needs.length cn, .slice Ax cs.excl.length cx] 29)
  have hw12 : Blk W12 w.heap.size 53 #[.slice none 0 0, .slice none 0 0, .slice none 0 0, .slice none 0 0, .slice none 0 0, .slice none 0 0, .slice Av L.length cv, .slice none 0 0] := hgrx.blk (Hb10.out.alloc _) (own_blk_ne hownA (Hb10.out.alloc _) (by decide))
  have hR10 : Blk W10 (w.heap.size + 1) 53 #[.slice none 0 0, .slice none 0 0, .slice none 0 0, .slice none 0 0, .slice none 0 0, .slice none 0 0, .slice none 0 0, .slice none 0 0] := HG10.out.blk (show Blk y6.drew _ _ _ from Hrb6.out) (by omega)
  have hr12 : Blk W12 (w.heap.size + 1) 53 #[.slice none 0 0, .slice none 0 0, .slice none 0 0, .slice none 0 0, .slice none 0 0, .slice none 0 0, .slice none 0 0, .slice none 0 0] := hgrx.blk (hR10.alloc _) (own_blk_ne hownA (hR10.alloc _) (by decide))
  have hi12 : InB W12 g A c ts (now + 1 + 2 + 4 * cs.needs.length + 2 * cs.excl.length) sz := ⟨hgrx.blk (HI10.out.blk.alloc _) (own_blk_ne hownA (HI10.out.blk.alloc _) (by decide)), HI10.out.toks.to_ (Nat.le_refl _) fun b o hlt => by
    have hgl10 := HI10.out.lt
    have e1 := (Below.refl W10.heap.size W10).alloc (Nat.le_refl _) (.cells #[.string cs.unit, .slice An cs.needs.length cn, .slice Ax cs.excl.length cx] 29)
    have hne : ¬ (Value.slice Av L.length cv).ownBlock = some b := fun e => by have := (Ho10.out.lt b e).1; omega
    exact (World.cell?_of_block (hgrx.block b (by simp; omega) hne)).trans (e1.cell (p := ⟨b, o, none⟩) (by show b < _; omega))⟩
  have HS12 := Lib.hid (HS10.out.step (x := ⟨cs, ⟨An, cs.needs.length, cn⟩, ⟨Ax, cs.excl.length, cx⟩⟩) Hox.out (own_base hown12 (by omega)) hg12)
  obtain ⟨A12, c12, rfl, _⟩ := own_caps hown12
  have hHeld12 : W12.cell? ⟨w.heap.size, 6, none⟩ = some (.slice Av L.length cv) := hw12.cell 6
  have bf12 : W12.frozen? ⟨w.heap.size, 6, none⟩ = false := hw12.frozen 6
  have HGall : Hid (Gr (fun k => k = g ∨ (Value.slice Av L.length cv).ownBlock = some k) w W12) := Lib.hid (((HGw.out.mono (fun k _ e => .inl e)).trans (Gr.alloc _ _ _)).trans (hgrx.mono (fun k _ e => .inr e)))
  have Hw12 := Lib.hid hw12
  have Hr12 := Lib.hid hr12
  have Hi12 := Lib.hid hi12
  have Ho12 := Lib.hid hown12
  refine hK.out _ _ (fun _ => hHeld12) ?_
  clear hK hHeld11 hgrx hownA hw12 hR10 hr12 hi12 hown12 hg12 hx6
  refine wpAnyS_takeT (i := 6) (v := ?_) rfl (by kernel_rfl) (by kernel_rfl) (by kernel_rfl) (by kernel_rfl) (fun c a w h => h) (Or.inl ⟨by rfl, ?_⟩) hHeld12 ?_
  rotate_left
  · intro w hSw
    go_simp
    first | done | with_reducible rfl
  simp only [Act.put, List.setIfInBounds_toArray, List.set_cons_zero, List.set_cons_succ]
  refine wpAnyS_ready (rs := [7]) (by kernel_rfl) (by simp) ?_
  refine AllReadyS.cons rfl (fun K hK => ?_) AllReadyS.nil
  go_simp
  refine hK.out _ _ (fun h => absurd h (by decide)) ?_
  clear hK
  refine wpAnyS_done (by kernel_rfl) ?_ _
  obtain ⟨W13, hW13⟩ : ∃ W13, W13 = W12.setCell ⟨w.heap.size, 6, none⟩ (.slice A12 (L.length + 1) c12) := ⟨_, rfl⟩
  have hc13 : Blk W13 w.heap.size 53 #[.slice none 0 0, .slice none 0 0, .slice none 0 0, .slice none 0 0, .slice none 0 0, .slice none 0 0, .slice A12 (L.length + 1) c12, .slice none 0 0] := by rw [hW13]; simpa using Hw12.out.set_ 6 (.slice A12 (L.length + 1) c12)
  have hr13 : Blk W13 (w.heap.size + 1) 53 #[.slice none 0 0, .slice none 0 0, .slice none 0 0, .slice none 0 0, .slice none 0 0, .slice none 0 0, .slice none 0 0, .slice none 0 0] := by rw [hW13]; exact Hr12.out.far (by show w.heap.size + 1 ≠ w.heap.size; omega) _
  have hG13 : Gr (· = w.heap.size) W12 W13 := by rw [hW13]; exact Gr.setCell (X := (· = w.heap.size)) _ ⟨w.heap.size, 6, none⟩ _ rfl
  have hG14 := set8_gr W13 (w.heap.size + 1) (.slice A12 (L.length + 1) c12)
  have hS14 := (HS12.out.gr hG13 hsz Hw12.out (by decide) (by decide) (by decide)).gr hG14 (by omega) hr13 (by decide) (by decide) (by decide)
  have hI14 : InB (set8 W13 (w.heap.size + 1) (.slice A12 (L.length + 1) c12)) g A c ts (now + 1 + 2 + 4 * cs.needs.length + 2 * cs.excl.length) sz := (Hi12.out.kept hG13 (fun k hk e => by omega)).kept hG14 (fun k hk e => by omega)
  have hO14 := own_gr (own_gr Ho12.out hG13 (fun k hk e => own_blk_ne Ho12.out Hw12.out (by decide) (e ▸ hk))) hG14 (fun k hk e => own_blk_ne (own_gr Ho12.out hG13 (fun k hk e => own_blk_ne Ho12.out Hw12.out (by decide) (e ▸ hk))) hr13 (by decide) (e ▸ hk))
  have hA14 : Gr (fun k => k = g ∨ (Value.slice Av L.length cv).ownBlock = some k) w (set8 W13 (w.heap.size + 1) (.slice A12 (L.length + 1) c12)) := (HGall.out.trans' hG13 (fun k hk e => by omega)).trans' hG14 (fun k hk e => by omega)
  have hz14 := set8_blk (v := .slice A12 (L.length + 1) c12) hr13
  have c0 : W13.cell? ⟨w.heap.size, 0, none⟩ = some (.slice none 0 0) := hc13.cell 0
  have c1 : W13.cell? ⟨w.heap.size, 1, none⟩ = some (.slice none 0 0) := hc13.cell 1
  have c2 : W13.cell? ⟨w.heap.size, 2, none⟩ = some (.slice none 0 0) := hc13.cell 2
  have c3 : W13.cell? ⟨w.heap.size, 3, none⟩ = some (.slice none 0 0) := hc13.cell 3
  have c4 : W13.cell? ⟨w.heap.size, 4, none⟩ = some (.slice none 0 0) := hc13.cell 4
  have c5 : W13.cell? ⟨w.heap.size, 5, none⟩ = some (.slice none 0 0) := hc13.cell 5
  have c6 : W13.cell? ⟨w.heap.size, 6, none⟩ = some (.slice A12 (L.length + 1) c12) := hc13.cell 6
  have c7 : W13.cell? ⟨w.heap.size, 7, none⟩ = some (.slice none 0 0) := hc13.cell 7
  have d0 : W13.cell? ⟨w.heap.size + 1, 0, none⟩ = some (.slice none 0 0) := hr13.cell 0
  have d1 : W13.cell? ⟨w.heap.size + 1, 1, none⟩ = some (.slice none 0 0) := hr13.cell 1
  have d2 : W13.cell? ⟨w.heap.size + 1, 2, none⟩ = some (.slice none 0 0) := hr13.cell 2
  have d3 : W13.cell? ⟨w.heap.size + 1, 3, none⟩ = some (.slice none 0 0) := hr13.cell 3
  have d4 : W13.cell? ⟨w.heap.size + 1, 4, none⟩ = some (.slice none 0 0) := hr13.cell 4
  have d5 : W13.cell? ⟨w.heap.size + 1, 5, none⟩ = some (.slice none 0 0) := hr13.cell 5
  have d6 : W13.cell? ⟨w.heap.size + 1, 6, none⟩ = some (.slice none 0 0) := hr13.cell 6
  have d7 : W13.cell? ⟨w.heap.size + 1, 7, none⟩ = some (.slice none 0 0) := hr13.cell 7
  have f0 : W13.frozen? ⟨w.heap.size + 1, 0, none⟩ = false := hr13.frozen 0
  have f1 : W13.frozen? ⟨w.heap.size + 1, 1, none⟩ = false := hr13.frozen 1
  have f2 : W13.frozen? ⟨w.heap.size + 1, 2, none⟩ = false := hr13.frozen 2
  have f3 : W13.frozen? ⟨w.heap.size + 1, 3, none⟩ = false := hr13.frozen 3
  have f4 : W13.frozen? ⟨w.heap.size + 1, 4, none⟩ = false := hr13.frozen 4
  have f5 : W13.frozen? ⟨w.heap.size + 1, 5, none⟩ = false := hr13.frozen 5
  have f6 : W13.frozen? ⟨w.heap.size + 1, 6, none⟩ = false := hr13.frozen 6
  have f7 : W13.frozen? ⟨w.heap.size + 1, 7, none⟩ = false := hr13.frozen 7
  obtain ⟨W14, hW14⟩ : ∃ W14, W14 = set8 W13 (w.heap.size + 1) (.slice A12 (L.length + 1) c12) := ⟨_, rfl⟩
  rw [← hW14] at hS14 hI14 hO14 hA14 hz14
  have HR := Lib.hid (And.intro hS14 (And.intro hI14 (And.intro hO14 hA14)))
  have Hz14 := Lib.hid hz14
  have HW13 := Lib.hid hW13
  have HW14 := Lib.hid hW14
  clear hc13 hr13 hG13 hG14 hS14 hI14 hO14 hA14 hz14 hW14 hW13 hHeld12 bf12
  rw [← HW13.out]
  go_wp2_with fail
  have hfold := HW14.out
  unfold set8 at hfold
  rw [← hfold]
  have z0 : W14.cell? ⟨w.heap.size + 1, 0, none⟩ = some (.slice none 0 0) := Hz14.out.cell 0
  have z1 : W14.cell? ⟨w.heap.size + 1, 1, none⟩ = some (.slice none 0 0) := Hz14.out.cell 1
  have z2 : W14.cell? ⟨w.heap.size + 1, 2, none⟩ = some (.slice none 0 0) := Hz14.out.cell 2
  have z3 : W14.cell? ⟨w.heap.size + 1, 3, none⟩ = some (.slice none 0 0) := Hz14.out.cell 3
  have z4 : W14.cell? ⟨w.heap.size + 1, 4, none⟩ = some (.slice none 0 0) := Hz14.out.cell 4
  have z5 : W14.cell? ⟨w.heap.size + 1, 5, none⟩ = some (.slice none 0 0) := Hz14.out.cell 5
  have z6 : W14.cell? ⟨w.heap.size + 1, 6, none⟩ = some (.slice A12 (L.length + 1) c12) := Hz14.out.cell 6
  have z7 : W14.cell? ⟨w.heap.size + 1, 7, none⟩ = some (.slice none 0 0) := Hz14.out.cell 7
  clear hfold
  refine bodyPost_ret (v := .agg #[.slice none 0 0, .slice none 0 0, .slice none 0 0, .slice none 0 0, .slice none 0 0, .slice none 0 0, .slice A12 (L.length + 1) c12, .slice none 0 0]) (by simp [results, Tryz.results83, go_sem, z0, z1, z2, z3, z4, z5, z6, z7]) rfl ?_
  exact ⟨A12, c12, ⟨cs, ⟨An, cs.needs.length, cn⟩, ⟨Ax, cs.excl.length, cx⟩⟩, rfl, rfl, HR.out.1, HR.out.2.1, by rw [List.flatMap_append]; simpa [CsV.cells] using HR.out.2.2.1, HR.out.2.2.2⟩
end Go.Proofs.YtknojjlfgjkbiaaGreatDoor
/- The example's source and its tokens. -/
namespace Go.Proofs.YtknojjlfgjkbiaaGreatDoor
open Go.ChangeShapes Go.WideShapes Go.ChangeAt Go.RowKit
def srcT : ByteArray := ⟨#[99, 97, 117, 115, 101, 32, 117, 32, 110, 101, 101, 100, 115, 32, 120, 58, 49, 44, 32, 121, 58, 50, 32, 117, 110, 108, 101, 115, 115, 32, 122, 59, 32, 99, 97, 117, 115, 101, 32, 122, 32, 110, 101, 101, 100, 115, 32, 120, 58, 49, 59, 32, 99, 97, 117, 115, 101, 32, 119, 32, 110, 101, 101, 100, 115, 32, 121, 58, 50, 32, 117, 110, 108, 101, 115, 115, 32, 117, 59]⟩
def srcS : List Tok := (lexO srcT 100 0 []).getD []
set_option maxRecDepth 100000 in
theorem srcS_lex : lexO srcT 100 0 [] = some srcS := by
  have h : (lexO srcT 100 0 []).isSome = true := by kernel_rfl
  obtain ⟨l, hl⟩ := Option.isSome_iff_exists.1 h
  unfold srcS
  rw [hl]; rfl
theorem srcS_len : srcS.length = 29 := by kernel_rfl
theorem cause0 : causeB srcS 1 ⟨sU, [rX, rY], [sZ]⟩ = true := by kernel_rfl
theorem cause1 : causeB srcS 14 ⟨sZ, [rX], []⟩ = true := by kernel_rfl
theorem cause2 : causeB srcS 21 ⟨sW, [rY], [sU]⟩ = true := by kernel_rfl
end Go.Proofs.YtknojjlfgjkbiaaGreatDoor
/- The reference's Lex: the walk. -/
namespace Go.Proofs.YtknojjlfgjkbiaaGreatDoor
open Go.ChangeShapes Go.WideShapes Go.ChangeAt Go.RowKit
attribute [local go_sem] Oper.semAt_some

theorem letter_is {b : Int} {r : Bool} (h : letterN b = r) (w : World) : Calls Tryz.prog 236 #[.int .u8 b] w fun e w' => e = .returned (.bool r) ∧ w = w' := h ▸ letter_c b w
theorem digit_is {b : Int} {r : Bool} (h : digitN b = r) (w : World) : Calls Tryz.prog 237 #[.int .u8 b] w fun e w' => e = .returned (.bool r) ∧ w = w' := h ▸ digit_c b w
/-- the tokens so far. -/
structure LexSt (w : World) (out : List Tok) (v : Value) (W : World) : Prop where
  below : Below w.heap.size w W
  own : W.ownsRow w.heap.size 267 3 v out.length (out.flatMap Tok.cells)
set_option maxRecDepth 100000 in
set_option maxHeartbeats 4000000 in
theorem lex_c (s : ByteArray) (ts : List Tok) (F : Nat) (w : World) (hs : s.size ≤ 1000) (h : lexO s F 0 [] = some ts) :
    Calls Tryz.prog 156 #[.string s] w fun e w' => ∃ A c, e = .returned (.tuple #[.slice A ts.length c, .int .i64 0, .int .i64 0]) ∧ RdTok w' w'.heap.size A ts ∧ Below w.heap.size w w' := by
  have H := Lib.hid h
  obtain ⟨i0, hi0, hz0, hz1, hz2⟩ := info_parts info250
  have hlen : decide ((s.size : Int) > 65536) = false := by simp; omega
  clear h
  go_enter Tryz.func156, Tryz.ntmps156
  go_wp2_with fail
  go_loopw [5, 6] (fun v t wr => ∃ (p f : Nat) (out : List Tok), p ≤ s.size ∧ out.length ≤ p ∧ t = .int .i64 p ∧ Hid (lexO s f p out = some ts) ∧ LexSt w out v wr) (fun _ t _ => s.size - (intOf t).toNat)
  case atStart => exact ⟨0, F, [], Nat.zero_le _, Nat.zero_le _, rfl, H, Below.refl _ _, World.ownsRow_nil _ _ _ _⟩
  case round =>
    obtain ⟨p, f, out, hp, hop, rfl, hL, hS⟩ := hrel
    clear H
    obtain ⟨f, rfl⟩ := lex_pos hL.out
    obtain ⟨Av, cv, rfl, _⟩ := own_caps hS.own
    have HS := Lib.hid hS
    clear hS
    by_cases hlt : p < s.size
    · have hb := bAt_eq hlt
      have hblank : (bAt s p == 32) = true → Hid (lexO s f (p + 1) out = some ts) := fun e => Lib.hid (lex_blank hL.out hlt e)
      cases q0 : (bAt s p == 32) with
      | true =>
        have Hn := hblank q0
        rw [← hb] at q0
        clear hblank hL hb
        go_wp2_with fail
        go_roundw
        case rel => exact ⟨p + 1, f, out, by omega, by omega, by go_num, Hn, HS.out⟩
        case measure => simp [intOf]; omega
      | false =>
        obtain ⟨q1, q2, q3, q4⟩ := lex_other hL.out hlt q0
        have hsg := sign_c ((s[p]'hlt).toNat : Int) wr
        have hlt' := hlt
        have i1 : (p : Int) ≤ (p : Int) + 1 := by omega
        have i2 : (p : Int) + 1 ≤ s.size := by omega
        cases q5 : signN (bAt s p) with
        | true =>
          have Hn := Lib.hid (lex_sign hL.out hlt q0 q5)
          rw [hb, q5, ← hb] at hsg
          have Hsg := Lib.hid hsg
          rw [← hb] at q0 q1 q2 q3 q4
          clear hblank hL hb hsg q5
          go_wp2_with (first | (go_at_call 235; refine Hsg.out.mono ?_; rintro e w' ⟨rfl, rfl⟩) | (at_builtin; refine wpList_append_own _ rfl (.tmp 56) (.tmp 63) 134 rfl w.heap.size 267 i0 (.agg #[.int .i64 0, .string ⟨#[]⟩, .int .i64 0]) 3 32 Tryz.underlying134 hi0 hz0 hz1 hz2 rfl (by decide) _ _ _ rfl (HS.out.own.alloc _) ⟨wr.heap.size, 0, none⟩ 1 1 [.int .i64 3, .string (s.extract p (p + 1)), .int .i64 p] rfl rfl ?c1 ?c2 ?c3 ?c4 ?c5 ?_))
          case c1 =>
            intro j u' hj
            rw [addr_add_none, Nat.zero_add, (Blk.new wr 267 #[.int .i64 3, .string (s.extract p (p + 1)), .int .i64 p]).cell j]
            simpa using hj
          case c2 => intro u' hu'; simp at hu'; rcases hu' with rfl | rfl | rfl <;> rfl
          case c3 => unfold maxLen; omega
          case c4 => omega
          case c5 => have := HS.out.below.size; simp; omega
          intro v5 w5 hown5 hg5 _
          have hb5 := (HS.out.below.alloc HS.out.below.size (.cells #[.int .i64 3, .string (s.extract p (p + 1)), .int .i64 p] 267)).grown hg5 (by have := HS.out.below.size; simp; omega) (fun g hg => ((HS.out.own.alloc (.cells #[.int .i64 3, .string (s.extract p (p + 1)), .int .i64 p] 267)).lt g hg).1)
          have HR := Lib.hid (And.intro hb5 hown5)
          clear hown5 hg5 hb5
          go_wp2_with fail
          go_roundw
          case rel => exact ⟨p + 1, f, _, by omega, by simp; omega, by go_num, Hn, HR.out.1, by simpa [Tok.cells] using HR.out.2⟩
          case measure => simp [intOf]; omega
        | false =>
          rw [hb, q5, ← hb] at hsg
          have Hsg := Lib.hid hsg
          have hinn := fun (k : Nat) (hk : k < s.size) => inner_c ((s[k]'hk).toNat : Int) wr
          have Hinn := Lib.hid hinn
          obtain ⟨E, hE⟩ : ∃ E, E = wordEnd s s.size (p + 1) := ⟨_, rfl⟩
          have HE := Lib.hid hE
          cases q6 : letterN (bAt s p) with
          | true =>
            have hw := lex_word hL.out hlt q0 q5 q6
            rw [← hE] at hw
            have hnm := fun W => name_ok (s := s.extract p E) W hw.1
            have Hnm := Lib.hid hnm
            have HL2 := Lib.hid hw.2
            rw [← hb] at q0 q1 q2 q3 q4 q6
            have hle := fun W => letter_is q6 W
            have Hle := Lib.hid hle
            clear hblank hL hb hsg q5 hle hinn hE hw q6 hnm
            go_wp2_with (first | (go_at_call 235; refine Hsg.out.mono ?_; rintro e w' ⟨rfl, rfl⟩) | (go_at_call 236; refine (Hle.out _).mono ?_; rintro e w' ⟨rfl, rfl⟩))
            go_loopw [8] (fun t wr' => ∃ q f2 : Nat, p + 1 ≤ q ∧ q ≤ s.size ∧ t = .int .i64 q ∧ Hid (wordEnd s f2 q = E ∧ s.size ≤ q + f2) ∧ wr' = wr) (fun t _ => s.size - (intOf t).toNat)
            case atStart => exact ⟨p + 1, s.size, Nat.le_refl _, by omega, by go_num, ⟨HE.out.symm, by omega⟩, rfl⟩
            case round =>
              obtain ⟨q, f2, hq1, hq2, rfl, hWE, rfl⟩ := hrel
              have hex : (¬ q < s.size ∨ innerN (bAt s q) = false) → E = q := fun h => by
                rw [← hWE.out.1]
                rcases h with h | h
                · exact wordEnd_end h
                · exact wordEnd_stop h
              by_cases hql : q < s.size
              · have hin := fun W => inner_c ((s[q]'hql).toNat : Int) W
                cases hqi : innerN (bAt s q) with
                | true =>
                  obtain ⟨f3, rfl⟩ : ∃ f3, f2 = f3 + 1 := ⟨f2 - 1, by have := hWE.out.2; omega⟩
                  have hnx := Lib.hid (And.intro ((wordEnd_more hql hqi).symm.trans hWE.out.1) (show s.size ≤ q + 1 + f3 by have := hWE.out.2; omega))
                  rw [bAt_eq hql, hqi, ← bAt_eq hql] at hin
                  have Hin := Lib.hid hin
                  clear hin hqi hex hWE
                  go_wp2_with (go_at_call 238; refine (Hin.out _).mono ?_; rintro e w' ⟨rfl, rfl⟩)
                  go_roundw
                  case rel => exact ⟨q + 1, f3, by omega, by omega, by go_num, hnx, trivial⟩
                  case measure => simp [intOf]; omega
                | false =>
                  have hEq := hex (.inr hqi)
                  rw [bAt_eq hql, hqi, ← bAt_eq hql] at hin
                  have Hin := Lib.hid hin
                  clear hin hqi hex hWE
                  obtain rfl := hEq
                  have hbT : Below wr.heap.size wr (wr.alloc (.cells #[.int .i64 1, .string (s.extract p E), .int .i64 p] 267)) := (Below.refl _ wr).alloc (Nat.le_refl _) _
                  have HoT := Lib.hid (own_keep HS.out.own (below_grown (row := none) hbT) (fun r e => by cases e))
                  have HbT := Lib.hid (HS.out.below.trans (hbT.mono HS.out.below.size))
                  have hpq : (p : Int) ≤ (E : Int) := by omega
                  have hqs : (E : Int) ≤ (s.size : Int) := by omega
                  clear hbT
                  go_wp2_with (first | (go_at_call 238; refine (Hin.out _).mono ?_; rintro e w' ⟨rfl, rfl⟩) | (go_at_call 236; refine (Hle.out _).mono ?_; rintro e w' ⟨rfl, rfl⟩) | (go_at_call 239; refine (Hnm.out _).mono ?_; rintro e w' ⟨rfl, rfl⟩) | (at_builtin; refine wpList_append_own _ rfl (.tmp 110) (.tmp 112) 134 rfl w.heap.size 267 i0 (.agg #[.int .i64 0, .string ⟨#[]⟩, .int .i64 0]) 3 32 Tryz.underlying134 hi0 hz0 hz1 hz2 rfl (by decide) _ _ _ rfl (HoT.out.alloc _) ⟨wr.heap.size + 1, 0, none⟩ 1 1 [.int .i64 1, .string (s.extract p E), .int .i64 p] rfl rfl ?c1 ?c2 ?c3 ?c4 ?c5 ?_))
                  case c1 =>
                    intro j u' hj
                    rw [addr_add_none, Nat.zero_add]
                    have hbk := Blk.new (wr.alloc (.cells #[.int .i64 1, .string (s.extract p E), .int .i64 p] 267)) 267 #[.int .i64 1, .string (s.extract p E), .int .i64 p]
                    rw [show (World.heap _).size = wr.heap.size + 1 by simp [World.setCell]] at hbk
                    exact (hbk.cell j).trans (by simpa using hj)
                  case c2 => intro u' hu'; simp at hu'; rcases hu' with rfl | rfl | rfl <;> rfl
                  case c3 => unfold maxLen; omega
                  case c4 => omega
                  case c5 => have := HS.out.below.size; simp [World.setCell]; omega
                  intro v5 w5 hown5 hg5 _
                  have hb5 := (HbT.out.alloc HbT.out.size (.cells #[.int .i64 1, .string (s.extract p E), .int .i64 p] 267)).grown hg5 (by have := HbT.out.size; simp [World.setCell] at this ⊢; omega) (fun g hg => ((HoT.out.alloc (.cells #[.int .i64 1, .string (s.extract p E), .int .i64 p] 267)).lt g hg).1)
                  have HR := Lib.hid (And.intro hb5 hown5)
                  clear hown5 hg5 hb5
                  go_wp2_with fail
                  go_roundw
                  case rel => exact ⟨E, f, _, by omega, by simp; omega, rfl, HL2, HR.out.1, by simpa [Tok.cells] using HR.out.2⟩
                  case measure => simp [intOf]; omega
              · have hEq := hex (.inl hql)
                clear hex hWE
                obtain rfl := hEq
                have hbT : Below wr.heap.size wr (wr.alloc (.cells #[.int .i64 1, .string (s.extract p E), .int .i64 p] 267)) := (Below.refl _ wr).alloc (Nat.le_refl _) _
                have HoT := Lib.hid (own_keep HS.out.own (below_grown (row := none) hbT) (fun r e => by cases e))
                have HbT := Lib.hid (HS.out.below.trans (hbT.mono HS.out.below.size))
                have hpq : (p : Int) ≤ (E : Int) := by omega
                have hqs : (E : Int) ≤ (s.size : Int) := by omega
                clear hbT
                go_wp2_with (first | (go_at_call 236; refine (Hle.out _).mono ?_; rintro e w' ⟨rfl, rfl⟩) | (go_at_call 239; refine (Hnm.out _).mono ?_; rintro e w' ⟨rfl, rfl⟩) | (at_builtin; refine wpList_append_own _ rfl (.tmp 110) (.tmp 112) 134 rfl w.heap.size 267 i0 (.agg #[.int .i64 0, .string ⟨#[]⟩, .int .i64 0]) 3 32 Tryz.underlying134 hi0 hz0 hz1 hz2 rfl (by decide) _ _ _ rfl (HoT.out.alloc _) ⟨wr.heap.size + 1, 0, none⟩ 1 1 [.int .i64 1, .string (s.extract p E), .int .i64 p] rfl rfl ?c1 ?c2 ?c3 ?c4 ?c5 ?_))
                case c1 =>
                  intro j u' hj
                  rw [addr_add_none, Nat.zero_add]
                  have hbk := Blk.new (wr.alloc (.cells #[.int .i64 1, .string (s.extract p E), .int .i64 p] 267)) 267 #[.int .i64 1, .string (s.extract p E), .int .i64 p]
                  rw [show (World.heap _).size = wr.heap.size + 1 by simp [World.setCell]] at hbk
                  exact (hbk.cell j).trans (by simpa using hj)
                case c2 => intro u' hu'; simp at hu'; rcases hu' with rfl | rfl | rfl <;> rfl
                case c3 => unfold maxLen; omega
                case c4 => omega
                case c5 => have := HS.out.below.size; simp [World.setCell]; omega
                intro v5 w5 hown5 hg5 _
                have hb5 := (HbT.out.alloc HbT.out.size (.cells #[.int .i64 1, .string (s.extract p E), .int .i64 p] 267)).grown hg5 (by have := HbT.out.size; simp [World.setCell] at this ⊢; omega) (fun g hg => ((HoT.out.alloc (.cells #[.int .i64 1, .string (s.extract p E), .int .i64 p] 267)).lt g hg).1)
                have HR := Lib.hid (And.intro hb5 hown5)
                clear hown5 hg5 hb5
                go_wp2_with fail
                go_roundw
                case rel => exact ⟨E, f, _, by omega, by simp; omega, rfl, HL2, HR.out.1, by simpa [Tok.cells] using HR.out.2⟩
                case measure => simp [intOf]; omega
          | false =>
            have hw := lex_num hL.out hlt q0 q5 q6
            rw [← hE] at hw
            obtain ⟨hdg, ⟨nv, hnv⟩, hw2⟩ := hw
            have hnm := fun W => num_ok (s := s.extract p E) W hnv
            have Hnm := Lib.hid hnm
            have HL2 := Lib.hid hw2
            rw [← hb] at hdg
            have hdg := fun W => digit_is hdg W
            have Hdi := Lib.hid hdg
            rw [← hb] at q0 q1 q2 q3 q4 q6
            have hle := fun W => letter_is q6 W
            have Hle := Lib.hid hle
            clear hblank hL hb hsg q5 hle hinn hE hdg hnv hw2 q6 hnm
            go_wp2_with (first | (go_at_call 235; refine Hsg.out.mono ?_; rintro e w' ⟨rfl, rfl⟩) | (go_at_call 236; refine (Hle.out _).mono ?_; rintro e w' ⟨rfl, rfl⟩) | (go_at_call 237; refine (Hdi.out _).mono ?_; rintro e w' ⟨rfl, rfl⟩))
            go_loopw [8] (fun t wr' => ∃ q f2 : Nat, p + 1 ≤ q ∧ q ≤ s.size ∧ t = .int .i64 q ∧ Hid (wordEnd s f2 q = E ∧ s.size ≤ q + f2) ∧ wr' = wr) (fun t _ => s.size - (intOf t).toNat)
            case atStart => exact ⟨p + 1, s.size, Nat.le_refl _, by omega, by go_num, ⟨HE.out.symm, by omega⟩, rfl⟩
            case round =>
              obtain ⟨q, f2, hq1, hq2, rfl, hWE, rfl⟩ := hrel
              have hex : (¬ q < s.size ∨ innerN (bAt s q) = false) → E = q := fun h => by
                rw [← hWE.out.1]
                rcases h with h | h
                · exact wordEnd_end h
                · exact wordEnd_stop h
              by_cases hql : q < s.size
              · have hin := fun W => inner_c ((s[q]'hql).toNat : Int) W
                cases hqi : innerN (bAt s q) with
                | true =>
                  obtain ⟨f3, rfl⟩ : ∃ f3, f2 = f3 + 1 := ⟨f2 - 1, by have := hWE.out.2; omega⟩
                  have hnx := Lib.hid (And.intro ((wordEnd_more hql hqi).symm.trans hWE.out.1) (show s.size ≤ q + 1 + f3 by have := hWE.out.2; omega))
                  rw [bAt_eq hql, hqi, ← bAt_eq hql] at hin
                  have Hin := Lib.hid hin
                  clear hin hqi hex hWE
                  go_wp2_with (go_at_call 238; refine (Hin.out _).mono ?_; rintro e w' ⟨rfl, rfl⟩)
                  go_roundw
                  case rel => exact ⟨q + 1, f3, by omega, by omega, by go_num, hnx, trivial⟩
                  case measure => simp [intOf]; omega
                | false =>
                  have hEq := hex (.inr hqi)
                  rw [bAt_eq hql, hqi, ← bAt_eq hql] at hin
                  have Hin := Lib.hid hin
                  clear hin hqi hex hWE
                  obtain rfl := hEq
                  have hbT : Below wr.heap.size wr (wr.alloc (.cells #[.int .i64 2, .string (s.extract p E), .int .i64 p] 267)) := (Below.refl _ wr).alloc (Nat.le_refl _) _
                  have HoT := Lib.hid (own_keep HS.out.own (below_grown (row := none) hbT) (fun r e => by cases e))
                  have HbT := Lib.hid (HS.out.below.trans (hbT.mono HS.out.below.size))
                  have hpq : (p : Int) ≤ (E : Int) := by omega
                  have hqs : (E : Int) ≤ (s.size : Int) := by omega
                  clear hbT
                  go_wp2_with (first | (go_at_call 238; refine (Hin.out _).mono ?_; rintro e w' ⟨rfl, rfl⟩) | (go_at_call 236; refine (Hle.out _).mono ?_; rintro e w' ⟨rfl, rfl⟩) | (go_at_call 240; refine (Hnm.out _).mono ?_; rintro e w' ⟨rfl, rfl⟩) | (at_builtin; refine wpList_append_own _ rfl (.tmp 110) (.tmp 112) 134 rfl w.heap.size 267 i0 (.agg #[.int .i64 0, .string ⟨#[]⟩, .int .i64 0]) 3 32 Tryz.underlying134 hi0 hz0 hz1 hz2 rfl (by decide) _ _ _ rfl (HoT.out.alloc _) ⟨wr.heap.size + 1, 0, none⟩ 1 1 [.int .i64 2, .string (s.extract p E), .int .i64 p] rfl rfl ?c1 ?c2 ?c3 ?c4 ?c5 ?_))
                  case c1 =>
                    intro j u' hj
                    rw [addr_add_none, Nat.zero_add]
                    have hbk := Blk.new (wr.alloc (.cells #[.int .i64 2, .string (s.extract p E), .int .i64 p] 267)) 267 #[.int .i64 2, .string (s.extract p E), .int .i64 p]
                    rw [show (World.heap _).size = wr.heap.size + 1 by simp [World.setCell]] at hbk
                    exact (hbk.cell j).trans (by simpa using hj)
                  case c2 => intro u' hu'; simp at hu'; rcases hu' with rfl | rfl | rfl <;> rfl
                  case c3 => unfold maxLen; omega
                  case c4 => omega
                  case c5 => have := HS.out.below.size; simp [World.setCell]; omega
                  intro v5 w5 hown5 hg5 _
                  have hb5 := (HbT.out.alloc HbT.out.size (.cells #[.int .i64 2, .string (s.extract p E), .int .i64 p] 267)).grown hg5 (by have := HbT.out.size; simp [World.setCell] at this ⊢; omega) (fun g hg => ((HoT.out.alloc (.cells #[.int .i64 2, .string (s.extract p E), .int .i64 p] 267)).lt g hg).1)
                  have HR := Lib.hid (And.intro hb5 hown5)
                  clear hown5 hg5 hb5
                  go_wp2_with fail
                  go_roundw
                  case rel => exact ⟨E, f, _, by omega, by simp; omega, rfl, HL2, HR.out.1, by simpa [Tok.cells] using HR.out.2⟩
                  case measure => simp [intOf]; omega
              · have hEq := hex (.inl hql)
                clear hex hWE
                obtain rfl := hEq
                have hbT : Below wr.heap.size wr (wr.alloc (.cells #[.int .i64 2, .string (s.extract p E), .int .i64 p] 267)) := (Below.refl _ wr).alloc (Nat.le_refl _) _
                have HoT := Lib.hid (own_keep HS.out.own (below_grown (row := none) hbT) (fun r e => by cases e))
                have HbT := Lib.hid (HS.out.below.trans (hbT.mono HS.out.below.size))
                have hpq : (p : Int) ≤ (E : Int) := by omega
                have hqs : (E : Int) ≤ (s.size : Int) := by omega
                clear hbT
                go_wp2_with (first | (go_at_call 236; refine (Hle.out _).mono ?_; rintro e w' ⟨rfl, rfl⟩) | (go_at_call 240; refine (Hnm.out _).mono ?_; rintro e w' ⟨rfl, rfl⟩) | (at_builtin; refine wpList_append_own _ rfl (.tmp 110) (.tmp 112) 134 rfl w.heap.size 267 i0 (.agg #[.int .i64 0, .string ⟨#[]⟩, .int .i64 0]) 3 32 Tryz.underlying134 hi0 hz0 hz1 hz2 rfl (by decide) _ _ _ rfl (HoT.out.alloc _) ⟨wr.heap.size + 1, 0, none⟩ 1 1 [.int .i64 2, .string (s.extract p E), .int .i64 p] rfl rfl ?c1 ?c2 ?c3 ?c4 ?c5 ?_))
                case c1 =>
                  intro j u' hj
                  rw [addr_add_none, Nat.zero_add]
                  have hbk := Blk.new (wr.alloc (.cells #[.int .i64 2, .string (s.extract p E), .int .i64 p] 267)) 267 #[.int .i64 2, .string (s.extract p E), .int .i64 p]
                  rw [show (World.heap _).size = wr.heap.size + 1 by simp [World.setCell]] at hbk
                  exact (hbk.cell j).trans (by simpa using hj)
                case c2 => intro u' hu'; simp at hu'; rcases hu' with rfl | rfl | rfl <;> rfl
                case c3 => unfold maxLen; omega
                case c4 => omega
                case c5 => have := HS.out.below.size; simp [World.setCell]; omega
                intro v5 w5 hown5 hg5 _
                have hb5 := (HbT.out.alloc HbT.out.size (.cells #[.int .i64 2, .string (s.extract p E), .int .i64 p] 267)).grown hg5 (by have := HbT.out.size; simp [World.setCell] at this ⊢; omega) (fun g hg => ((HoT.out.alloc (.cells #[.int .i64 2, .string (s.extract p E), .int .i64 p] 267)).lt g hg).1)
                have HR := Lib.hid (And.intro hb5 hown5)
                clear hown5 hg5 hb5
                go_wp2_with fail
                go_roundw
                case rel => exact ⟨E, f, _, by omega, by simp; omega, rfl, HL2, HR.out.1, by simpa [Tok.cells] using HR.out.2⟩
                case measure => simp [intOf]; omega
    · have he := lex_end hL.out hlt
      subst he
      have HR := Lib.hid (And.intro (rdTok_of_own HS.out.own) HS.out.below)
      go_wp2_with fail
      refine bodyPost_ret (results_tmp3 rfl _ _ _) rfl ?_
      exact ⟨Av, cv, rfl, HR.out⟩
end Go.Proofs.YtknojjlfgjkbiaaGreatDoor
