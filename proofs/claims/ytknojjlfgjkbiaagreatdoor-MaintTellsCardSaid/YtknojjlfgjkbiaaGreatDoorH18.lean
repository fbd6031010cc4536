/- Texts G3 R3 R4, joined. -/
import Derived.Test.YtknojjlfgjkbiaaGreatDoorH16
import Derived.Test.YtknojjlfgjkbiaaGreatDoorH17
set_option linter.unusedSimpArgs false
set_option linter.unusedVariables false
set_option linter.unusedSectionVars false
/- desk.Report. -/
namespace Go.Proofs.YtknojjlfgjkbiaaGreatDoor
open Go.ChangeShapes Go.WideShapes Go.ChangeAt Go.RowKit
attribute [local go_sem] Oper.semAt_some

/-- a report that some cause needs. -/
def needB (r : Rep) (c : Cs) : Bool := c.needs.any fun x => decide (r = x)
theorem needs_c (r : Rep) (Bx : Nat) (x : CsV) (w : World) (hb : Blk w Bx 32 #[.string r.unit, .int .i64 r.code]) (hx : x.rd w w.heap.size) (hn : x.c.needs.length ≤ 1000) :
    Calls Tryz.prog 45 #[x.val, .pointer (some ⟨Bx, 0, none⟩)] w fun e w' => e = .returned (.bool (needB r x.c)) ∧ Below w.heap.size w w' := by
  have hcon := contains39 x.c.needs r x.n.a x.n.c (w.alloc (.cells #[.string x.c.unit, .slice x.n.a x.n.n x.n.c, .slice x.x.a x.x.n x.x.c] 29)) ((hx.below ((Below.refl _ _).alloc (Nat.le_refl _) _)).n) (by omega)
  rw [← hx.nl] at hcon
  have b0 : w.cell? ⟨Bx, 0, none⟩ = some (.string r.unit) := hb.cell 0
  have b1 : w.cell? ⟨Bx, 1, none⟩ = some (.int .i64 r.code) := hb.cell 1
  have hlt := hb.lt
  have Hcon := Lib.hid hcon
  unfold needB
  generalize (x.c.needs.any fun x => decide (r = x)) = q at *
  clear hcon hb hx
  go_enter Tryz.func45, Tryz.ntmps45
  go_wp2_with fail
  refine Hcon.out.mono ?_
  rintro e w1 ⟨rfl, hb1⟩
  have HB := Lib.hid (((Below.refl _ w).alloc (Nat.le_refl _) (.cells #[.string x.c.unit, .slice x.n.a x.n.n x.n.c, .slice x.x.a x.x.n x.x.c] 29)).trans (hb1.mono (by simp)))
  clear Hcon hb1
  go_wp2
  go_ret
  exact ⟨rfl, HB.out⟩
set_option maxRecDepth 100000 in
set_option maxHeartbeats 1000000 in
theorem report_c (L : List CsV) (reps : List Rep) (r : Rep) (g mb : Nat) (A : Option Addr) (c : Nat) (w : World) (hg : Blk w g 95 #[.slice A L.length c, .map (some mb)]) (h : RdCs w w.heap.size A L) (hl : L.length ≤ 100000) (hn : ∀ x ∈ L, x.c.needs.length ≤ 1000) (hm : CntMap KR w mb reps) (hr : r.ok) (hlr : reps.length < maxLen)
    (hk : (L.any fun x => needB r x.c) = true) :
    Calls Tryz.prog 14 #[.pointer (some ⟨g, 0, none⟩), r.val] w fun e w' => e = .returned (.int .i64 0) ∧ CntMap KR w' mb (reps ++ [r]) ∧ w.grownBy w' (some mb) := by
  obtain ⟨w1, hw1⟩ : ∃ w1, w1 = w.alloc (.cells #[.string r.unit, .int .i64 r.code] 32) := ⟨_, rfl⟩
  have hB1 : Below w.heap.size w w1 := by rw [hw1]; exact (Below.refl _ _).alloc (Nat.le_refl _) _
  have hbx : Blk w1 w.heap.size 32 #[.string r.unit, .int .i64 r.code] := by rw [hw1]; exact Blk.new w _ _
  have hg1 : Blk w1 g 95 #[.slice A L.length c, .map (some mb)] := hg.below hB1 hg.lt
  have hmade := made_c g A L.length c (some mb) w1 hg1
  have hcon := containsCs37 45 #[.pointer (some ⟨w.heap.size, 0, none⟩)] (fun x => needB r x.c) (enters_of Tryz.func45 (by kernel_rfl) rfl) L A c w1
    (fun W x hx hW hrd => needs_c r w.heap.size x W (hbx.below hW hbx.lt) hrd (hn x hx)) (h.below hB1) (by omega)
  rw [hk] at hcon
  have c0 : w1.cell? ⟨g, 0, none⟩ = some (.slice A L.length c) := hg1.cell 0
  have hmne : w.heap.size ≠ mb := by have := hm.lt; omega
  have hgne : g ≠ mb := fun e => by
    obtain ⟨es, clock, ho⟩ := hm.obj
    rw [← e, show w.heap[g]? = _ from hg] at ho
    cases ho
  have Hcon := Lib.hid hcon
  have Hmade := Lib.hid hmade
  have HB1 := Lib.hid hB1
  have Hbx := Lib.hid hbx
  have Hg1 := Lib.hid hg1
  have Hm1 := Lib.hid (hm.below hB1 hm.lt)
  have HW1 := Lib.hid hw1
  have hltm := hm.lt
  clear hw1 hB1 hbx hg1 hmade hcon hg h hn hm hk
  go_enter Tryz.func14, Tryz.ntmps14
  go_wp2_with fail
  rw [← HW1.out]
  refine Hmade.out.mono ?_
  rintro e w' ⟨rfl, rfl⟩
  go_wp2_with fail
  refine Hcon.out.mono ?_
  rintro e w2 ⟨rfl, hb2⟩
  have hs1 := HB1.out.size
  have hs2 := hb2.size
  have hw0 := (Hm1.out.next hb2).drew
  have hbx2 := Hbx.out.below hb2 Hbx.out.lt
  have hg2 := Hg1.out.below hb2 Hg1.out.lt
  have hlk := hw0.run_look (M := KR) (y := r) hr
  obtain ⟨v0, st, W1, W3, hE, hL, hS, hC2, hgr, hcell⟩ := hw0.entryR hlr hr
  have d0 : w2.drew.cell? ⟨w.heap.size, 0, none⟩ = some (.string r.unit) := hbx2.cell 0
  have d1 : w2.drew.cell? ⟨w.heap.size, 1, none⟩ = some (.int .i64 r.code) := hbx2.cell 1
  have d2 : w2.drew.cell? ⟨g, 1, none⟩ = some (.map (some mb)) := hg2.cell 1
  have f0 := (hcell ⟨w.heap.size, 0, none⟩ hmne).trans d0
  have f1 := (hcell ⟨w.heap.size, 1, none⟩ hmne).trans d1
  have f2 := (hcell ⟨g, 1, none⟩ hgne).trans d2
  have hlk : (Instr.lookup 83 (.map (some mb)) (.agg #[.string r.unit, .int .i64 r.code]) false).run Tryz.prog w2.drew = .ok (.int .i64 (cntB r reps)) w2.drew := hlk
  have hcl' := cnt_le r reps
  have hcb : (cntB r reps : Int) ≤ 9223372036854775806 := by unfold maxLen at hlr; omega
  have hc0 : (0 : Int) ≤ (cntB r reps : Int) := by omega
  have hwr : IntKind.i64.wrap ((cntB r reps : Int) + 1) = (cntB r reps : Int) + 1 := IntWalk.i64_in _ (by omega)
  have hfin : w.grownBy W3 (some mb) := only_grow (only_of_below HB1.out (some mb) |> fun h => only_grow h (below_grown (row := none) hb2) (fun r e => by cases e)) (row := some mb) ⟨hgr.os, hgr.tape, hgr.output, hgr.size, hgr.block⟩ (fun r e => by cases e; exact .inl rfl)
  have HR := Lib.hid (And.intro hC2 hfin)
  clear hb2 hw0 hbx2 hg2 hC2 hgr hcell hfin hcl' Hcon Hmade HB1 Hbx Hg1 Hm1
  dsimp only [Rep.val] at hE hL
  go_wp2_with fail
  go_region
  go_wp2_with fail
  go_ret
  exact ⟨rfl, HR.out⟩
end Go.Proofs.YtknojjlfgjkbiaaGreatDoor
/- The reference's parser: here, sees, is, must, name, num. -/
namespace Go.Proofs.YtknojjlfgjkbiaaGreatDoor
open Go.ChangeShapes Go.WideShapes Go.ChangeAt Go.RowKit
attribute [local go_sem] Oper.semAt_some

/-- the parser's block: the token that comes next, no error. -/
structure InB (w : World) (g : Nat) (A : Option Addr) (c : Nat) (ts : List Tok) (now : Nat) (sz : Int) : Prop where
  blk : Blk w g 136 #[.slice A ts.length c, .int .i64 now, .int .i64 sz, .int .i64 0, .int .i64 0]
  toks : RdTok w g A ts
section
variable {w w' : World} {g : Nat} {A : Option Addr} {c : Nat} {ts : List Tok} {now : Nat} {sz : Int}
theorem InB.lt (h : InB w g A c ts now sz) : g < w.heap.size := h.blk.lt
theorem InB.below (h : InB w g A c ts now sz) (hb : Below w.heap.size w w') : InB w' g A c ts now sz :=
  ⟨h.blk.below hb h.lt, h.toks.to_ (Nat.le_refl _) fun b o hlt => hb.cell (p := ⟨b, o, none⟩) (Nat.lt_trans hlt h.lt)⟩
theorem InB.kept (h : InB w g A c ts now sz) {X : Nat → Prop} (hg : Gr X w w') (hX : ∀ k, k ≤ g → ¬ X k) : InB w' g A c ts now sz :=
  ⟨hg.blk h.blk (hX _ (Nat.le_refl _)), h.toks.to_ (Nat.le_refl _) fun b o hlt => World.cell?_of_block (hg.block b (Nat.lt_trans hlt h.lt) (hX _ (by omega)))⟩
theorem InB.step (h : InB w g A c ts now sz) : InB (w.setCell ⟨g, 1, none⟩ (.int .i64 ((now + 1 : Nat) : Int))) g A c ts (now + 1) sz :=
  ⟨by simpa using h.blk.set_ 1 (.int .i64 ((now + 1 : Nat) : Int)), h.toks.to_ (Nat.le_refl _) fun b o hlt => World.cell?_of_block (Below.heap_setCell w ⟨g, 1, none⟩ _ b (by simp; omega))⟩

set_option maxRecDepth 100000 in
set_option maxHeartbeats 1000000 in
theorem here_c (w : World) (h : InB w g A c ts now sz) (hn : now < ts.length) (hl : ts.length ≤ 100000) :
    Calls Tryz.prog 243 #[.pointer (some ⟨g, 0, none⟩)] w fun e w' => e = .returned (ts[now]'hn).val ∧ Below w.heap.size w w' := by
  obtain ⟨w1, hw1⟩ : ∃ w1, w1 = w.alloc (.cells #[.int .i64 0, .string ⟨#[]⟩, .int .i64 0] 267) := ⟨_, rfl⟩
  have hB1 : Below w.heap.size w w1 := by rw [hw1]; exact (Below.refl _ _).alloc (Nat.le_refl _) _
  have hbx : Blk w1 w.heap.size 267 #[.int .i64 0, .string ⟨#[]⟩, .int .i64 0] := by rw [hw1]; exact Blk.new w _ _
  obtain ⟨b, o, rfl, hb, hc⟩ := h.toks (by omega)
  obtain ⟨d0, d1, d2⟩ := hc now hn
  have hI := h.below hB1
  have hgl := h.lt
  have k0 : w1.cell? ⟨g, 0, none⟩ = some (.slice (some ⟨b, o, none⟩) ts.length c) := hI.blk.cell 0
  have k1 : w1.cell? ⟨g, 1, none⟩ = some (.int .i64 now) := hI.blk.cell 1
  have k4 : w1.cell? ⟨g, 4, none⟩ = some (.int .i64 0) := hI.blk.cell 4
  have l0 : w1.cell? ⟨g, 0, none⟩ = some (.slice (some ⟨b, o, none⟩) ts.length c) := hI.blk.cell 0
  have l1 : w1.cell? ⟨g, 1, none⟩ = some (.int .i64 now) := hI.blk.cell 1
  have j0 : w1.cell? ⟨b, o + now * 3, none⟩ = some (.int .i64 (ts[now]'hn).kind) := (hB1.cell (p := ⟨b, o + now * 3, none⟩) (Nat.lt_trans hb hgl)).trans d0
  have j1 : w1.cell? ⟨b, o + now * 3 + 1, none⟩ = some (.string (ts[now]'hn).text) := (hB1.cell (p := ⟨b, o + now * 3 + 1, none⟩) (Nat.lt_trans hb hgl)).trans d1
  have j2 : w1.cell? ⟨b, o + now * 3 + 2, none⟩ = some (.int .i64 (ts[now]'hn).at_) := (hB1.cell (p := ⟨b, o + now * 3 + 2, none⟩) (Nat.lt_trans hb hgl)).trans d2
  have f0 : w1.frozen? ⟨w.heap.size, 0, none⟩ = false := hbx.frozen 0
  have f1 : w1.frozen? ⟨w.heap.size, 1, none⟩ = false := hbx.frozen 1
  have f2 : w1.frozen? ⟨w.heap.size, 2, none⟩ = false := hbx.frozen 2
  have x0 : w1.cell? ⟨w.heap.size, 0, none⟩ = some (.int .i64 0) := hbx.cell 0
  have x1 : w1.cell? ⟨w.heap.size, 1, none⟩ = some (.string ⟨#[]⟩) := hbx.cell 1
  have x2 : w1.cell? ⟨w.heap.size, 2, none⟩ = some (.int .i64 0) := hbx.cell 2
  have hge : decide ((now : Int) ≥ ts.length) = false := by simp; omega
  have HB1 := Lib.hid hB1
  have HW1 := Lib.hid hw1
  have Hbx := Lib.hid hbx
  have hlt1 : w.heap.size < w1.heap.size := by rw [hw1]; simp
  clear d0 d1 d2 hc h hI hB1 hw1 hbx
  generalize ts[now] = t at *
  go_enter Tryz.func243, Tryz.ntmps243
  go_wp2_with fail
  rw [← HW1.out]
  go_quiet (fail)
  go_wp2_with fail
  go_region
  go_wp2_with fail
  have hW5 : Below w.heap.size w ((((w1.drewN (nq + 1)).setCell ⟨w.heap.size, 0, none⟩ (.int .i64 t.kind)).setCell ⟨w.heap.size, 1, none⟩ (.string t.text)).setCell ⟨w.heap.size, 2, none⟩ (.int .i64 t.at_)) :=
    (((only_below HB1.out).setCell (Nat.le_refl _) _).setCell (Nat.le_refl _) _).setCell (Nat.le_refl _) _
  have hz := (((Hbx.out.drewN (nq + 1)).set_ 0 (.int .i64 t.kind)).set_ 1 (.string t.text)).set_ 2 (.int .i64 t.at_)
  generalize ((((w1.drewN (nq + 1)).setCell ⟨w.heap.size, 0, none⟩ (.int .i64 t.kind)).setCell ⟨w.heap.size, 1, none⟩ (.string t.text)).setCell ⟨w.heap.size, 2, none⟩ (.int .i64 t.at_)) = W5 at *
  have z0 : W5.cell? ⟨w.heap.size, 0, none⟩ = some (.int .i64 t.kind) := hz.cell 0
  have z1 : W5.cell? ⟨w.heap.size, 1, none⟩ = some (.string t.text) := hz.cell 1
  have z2 : W5.cell? ⟨w.heap.size, 2, none⟩ = some (.int .i64 t.at_) := hz.cell 2
  exact bodyPost_ret (v := t.val) (by simp [results, Tryz.results243, go_sem, z0, z1, z2]) rfl ⟨rfl, hW5⟩
end
end Go.Proofs.YtknojjlfgjkbiaaGreatDoor
/- The reference's parser: sees, is, must, name, num. -/
namespace Go.Proofs.YtknojjlfgjkbiaaGreatDoor
open Go.ChangeShapes Go.WideShapes Go.ChangeAt Go.RowKit
attribute [local go_sem] Oper.semAt_some

/-- a token that is a word or sign with a text. -/
def seesB (t : Tok) (s : ByteArray) : Bool := ((t.kind == 1) || (t.kind == 3)) && (t.text.toList == s.toList)
section
variable {g : Nat} {A : Option Addr} {c : Nat} {ts : List Tok} {now : Nat} {sz : Int}
theorem sees_c (s : ByteArray) (w : World) (h : InB w g A c ts now sz) (hn : now < ts.length) (hl : ts.length ≤ 100000) :
    Calls Tryz.prog 241 #[.pointer (some ⟨g, 0, none⟩), .string s] w fun e w' => e = .returned (.bool (seesB (ts[now]'hn) s)) ∧ Below w.heap.size w w' := by
  have hh := here_c w h hn hl
  obtain ⟨q, hq⟩ : ∃ q, seesB (ts[now]'hn) s = q := ⟨_, rfl⟩
  rw [hq]
  unfold seesB at hq
  generalize ts[now] = t at *
  dsimp only [Tok.val] at hh
  have Hh := Lib.hid hh
  have Hq := Lib.hid hq
  clear hh hq h
  cases h1 : (t.kind == 1) <;> cases h3 : (t.kind == 3) <;> cases h2 : (t.text.toList == s.toList)
  all_goals
    rw [h1, h3, h2] at Hq
    go_enter Tryz.func241, Tryz.ntmps241
    go_wp2_with (go_at_call 243; refine Hh.out.mono ?_; rintro e w1 ⟨rfl, hb1⟩)
    go_ret
    exact ⟨ret_bool Hq.out, hb1.alloc hb1.size _⟩
theorem is_no (s : ByteArray) (w : World) (h : InB w g A c ts now sz) (hn : now < ts.length) (hl : ts.length ≤ 100000) (hs : seesB (ts[now]'hn) s = false) :
    Calls Tryz.prog 157 #[.pointer (some ⟨g, 0, none⟩), .string s] w fun e w' => e = .returned (.bool false) ∧ Below w.heap.size w w' := by
  have hh := sees_c s w h hn hl
  rw [hs] at hh
  have Hh := Lib.hid hh
  clear hh h hs
  go_enter Tryz.func157, Tryz.ntmps157
  go_wp2_with (go_at_call 241; refine Hh.out.mono ?_; rintro e w1 ⟨rfl, hb1⟩)
  go_ret
  exact ⟨rfl, hb1⟩
/-- one token on. -/
theorem gr_step {w w1 : World} (hb : Below w.heap.size w w1) (u : Value) : Gr (· = g) w (w1.setCell ⟨g, 1, none⟩ u) := (Gr.of_below hb).trans (Gr.setCell _ _ _ rfl)
theorem is_yes (s : ByteArray) (w : World) (h : InB w g A c ts now sz) (hn : now < ts.length) (hl : ts.length ≤ 100000) (hs : seesB (ts[now]'hn) s = true) :
    Calls Tryz.prog 157 #[.pointer (some ⟨g, 0, none⟩), .string s] w fun e w' => e = .returned (.bool true) ∧ InB w' g A c ts (now + 1) sz ∧ Gr (· = g) w w' := by
  have hh := sees_c s w h hn hl
  rw [hs] at hh
  have Hh := Lib.hid hh
  have H := Lib.hid h
  clear hh h hs
  go_enter Tryz.func157, Tryz.ntmps157
  go_wp2_with fail
  refine Hh.out.mono ?_
  rintro e w1 ⟨rfl, hb1⟩
  have hI := H.out.below hb1
  have k1 : w1.cell? ⟨g, 1, none⟩ = some (.int .i64 now) := hI.blk.cell 1
  have f1 : w1.frozen? ⟨g, 1, none⟩ = false := hI.blk.frozen 1
  have HR := Lib.hid (And.intro hI.step (gr_step (g := g) hb1 (.int .i64 ((now + 1 : Nat) : Int))))
  clear Hh hb1 hI
  go_wp2_with fail
  go_ret
  exact ⟨rfl, HR.out⟩
theorem must_c (s : ByteArray) (w : World) (h : InB w g A c ts now sz) (hn : now < ts.length) (hl : ts.length ≤ 100000) (hs : seesB (ts[now]'hn) s = true) :
    Calls Tryz.prog 160 #[.pointer (some ⟨g, 0, none⟩), .string s] w fun e w' => (∃ v, e = .returned v) ∧ InB w' g A c ts (now + 1) sz ∧ Gr (· = g) w w' := by
  have hh := is_yes s w h hn hl hs
  have Hh := Lib.hid hh
  clear hh h hs
  go_enter Tryz.func160, Tryz.ntmps160
  go_wp2_with (go_at_call 157; refine Hh.out.mono ?_; rintro e w1 ⟨rfl, hb1⟩)
  go_end0
  exact ⟨⟨_, rfl⟩, hb1⟩
theorem name_c (w : World) (h : InB w g A c ts now sz) (hn : now < ts.length) (hl : ts.length ≤ 100000) (hk : (ts[now]'hn).kind = 1) :
    Calls Tryz.prog 162 #[.pointer (some ⟨g, 0, none⟩)] w fun e w' => e = .returned (.string (ts[now]'hn).text) ∧ InB w' g A c ts (now + 1) sz ∧ Gr (· = g) w w' := by
  have hh := here_c w h hn hl
  generalize ts[now] = t at *
  obtain ⟨k, x, y⟩ := t
  obtain rfl : k = 1 := hk
  dsimp only [Tok.val] at hh
  have Hh := Lib.hid hh
  have H := Lib.hid h
  clear hh h
  go_enter Tryz.func162, Tryz.ntmps162
  go_wp2_with fail
  refine Hh.out.mono ?_
  rintro e w1 ⟨rfl, hb1⟩
  have hI := H.out.below hb1
  have k1 : w1.cell? ⟨g, 1, none⟩ = some (.int .i64 now) := hI.blk.cell 1
  have f1 : w1.frozen? ⟨g, 1, none⟩ = false := hI.blk.frozen 1
  have hb2 : Below (w1.setCell ⟨g, 1, none⟩ (.int .i64 ((now + 1 : Nat) : Int))).heap.size (w1.setCell ⟨g, 1, none⟩ (.int .i64 ((now + 1 : Nat) : Int))) ((w1.setCell ⟨g, 1, none⟩ (.int .i64 ((now + 1 : Nat) : Int))).alloc (.cells #[.int .i64 1, .string x, .int .i64 y] 267)) := (Below.refl _ _).alloc (Nat.le_refl _) _
  have hlt : g < w1.heap.size := Nat.lt_of_lt_of_le H.out.lt hb1.size
  have HR := Lib.hid (And.intro (hI.step.below hb2) ((gr_step (g := g) hb1 (.int .i64 ((now + 1 : Nat) : Int))).trans (Gr.of_below hb2)))
  clear Hh hb1 hI hb2
  go_wp2_with fail
  go_ret
  exact ⟨rfl, HR.out⟩
theorem num_c (n : Int) (w : World) (h : InB w g A c ts now sz) (hn : now < ts.length) (hl : ts.length ≤ 100000) (hk : (ts[now]'hn).kind = 2) (hf : figB (ts[now]'hn).text n = true) :
    Calls Tryz.prog 167 #[.pointer (some ⟨g, 0, none⟩)] w fun e w' => e = .returned (.int .i64 n) ∧ InB w' g A c ts (now + 1) sz ∧ Gr (· = g) w w' := by
  have hh := here_c w h hn hl
  generalize ts[now] = t at *
  obtain ⟨k, x, y⟩ := t
  obtain rfl : k = 2 := hk
  dsimp only [Tok.val] at hh hf
  have hN := fun W => num_ok (s := x) W hf
  have HN := Lib.hid hN
  have Hh := Lib.hid hh
  have H := Lib.hid h
  clear hh h hN hf
  go_enter Tryz.func167, Tryz.ntmps167
  go_wp2_with fail
  refine Hh.out.mono ?_
  rintro e w1 ⟨rfl, hb1⟩
  have hI := H.out.below hb1
  have k1 : w1.cell? ⟨g, 1, none⟩ = some (.int .i64 now) := hI.blk.cell 1
  have f1 : w1.frozen? ⟨g, 1, none⟩ = false := hI.blk.frozen 1
  have hb2 : Below (w1.setCell ⟨g, 1, none⟩ (.int .i64 ((now + 1 : Nat) : Int))).heap.size (w1.setCell ⟨g, 1, none⟩ (.int .i64 ((now + 1 : Nat) : Int))) ((w1.setCell ⟨g, 1, none⟩ (.int .i64 ((now + 1 : Nat) : Int))).alloc (.cells #[.int .i64 2, .string x, .int .i64 y] 267)) := (Below.refl _ _).alloc (Nat.le_refl _) _
  have hlt : g < w1.heap.size := Nat.lt_of_lt_of_le H.out.lt hb1.size
  have HR := Lib.hid (And.intro (hI.step.below hb2) ((gr_step (g := g) hb1 (.int .i64 ((now + 1 : Nat) : Int))).trans (Gr.of_below hb2)))
  clear Hh hb1 hI hb2
  go_wp2_with (go_at_call 240; refine (HN.out _).mono ?_; rintro e w' ⟨rfl, rfl⟩)
  go_ret
  exact ⟨rfl, HR.out⟩
end
end Go.Proofs.YtknojjlfgjkbiaaGreatDoor
