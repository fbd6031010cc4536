/- Texts R5 K13 K15, joined. -/
import Derived.Test.YtknojjlfgjkbiaaGreatDoorH18
import Derived.Test.YtknojjlfgjkbiaaGreatDoorH19
import Derived.Test.YtknojjlfgjkbiaaGreatDoorH17
set_option linter.unusedSimpArgs false
set_option linter.unusedVariables false
set_option linter.unusedSectionVars false
/- The reference's parser: a cause in tokens; what a cause being read is in memory. -/
namespace Go.Proofs.YtknojjlfgjkbiaaGreatDoor
open Go.ChangeShapes Go.WideShapes Go.ChangeAt Go.RowKit
attribute [local go_sem] Oper.semAt_some

def atB (ts : List Tok) (i : Nat) (P : Tok → Bool) : Bool := match ts[i]? with | some t => P t | none => false
theorem atB_get {ts : List Tok} {i : Nat} {P : Tok → Bool} (h : atB ts i P = true) : ∃ hi : i < ts.length, P ts[i] = true := by
  unfold atB at h
  split at h
  · rename_i t ht
    obtain ⟨hi, rfl⟩ := List.getElem?_eq_some_iff.1 ht
    exact ⟨hi, h⟩
  · cases h
def sNeeds : ByteArray := ⟨#[110, 101, 101, 100, 115]⟩
def sUnless : ByteArray := ⟨#[117, 110, 108, 101, 115, 115]⟩
def wordB (s : ByteArray) (t : Tok) : Bool := (t.kind == 1) && decide (t.text = s)
/-- the tokens of a cause from a place on, behind its first word. -/
def causeB (ts : List Tok) (p : Nat) (c : Cs) : Bool :=
  atB ts p (wordB c.unit) && (atB ts (p + 1) (fun t => seesB t sNeeds) && (decide (0 < c.needs.length) &&
  ((List.range c.needs.length).all (fun i => match c.needs[i]? with
    | some r => atB ts (p + 2 + 4 * i) (wordB r.unit) && (atB ts (p + 3 + 4 * i) (fun t => seesB t ⟨#[58]⟩) && (atB ts (p + 4 + 4 * i) (fun t => (t.kind == 2) && figB t.text r.code) && atB ts (p + 5 + 4 * i) (fun t => seesB t ⟨#[44]⟩ == decide (i + 1 < c.needs.length))))
    | none => false) &&
  (atB ts (p + 1 + 4 * c.needs.length) (fun t => seesB t sUnless == decide (0 < c.excl.length)) &&
  ((List.range c.excl.length).all (fun i => match c.excl[i]? with
    | some s => atB ts (p + 2 + 4 * c.needs.length + 2 * i) (wordB s) && atB ts (p + 3 + 4 * c.needs.length + 2 * i) (fun t => seesB t ⟨#[44]⟩ == decide (i + 1 < c.excl.length))
    | none => false) &&
  atB ts (p + 1 + 4 * c.needs.length + 2 * c.excl.length) (fun t => seesB t ⟨#[59]⟩))))))
structure CauseAt (ts : List Tok) (p : Nat) (c : Cs) : Prop where
  unit : ∃ h : p < ts.length, ts[p].kind = 1 ∧ ts[p].text = c.unit
  needs : ∃ h : p + 1 < ts.length, seesB ts[p + 1] sNeeds = true
  pos : 0 < c.needs.length
  name : ∀ i (hi : i < c.needs.length), ∃ h : p + 2 + 4 * i < ts.length, ts[p + 2 + 4 * i].kind = 1 ∧ ts[p + 2 + 4 * i].text = c.needs[i].unit
  colon : ∀ i, i < c.needs.length → ∃ h : p + 3 + 4 * i < ts.length, seesB ts[p + 3 + 4 * i] ⟨#[58]⟩ = true
  num : ∀ i (hi : i < c.needs.length), ∃ h : p + 4 + 4 * i < ts.length, ts[p + 4 + 4 * i].kind = 2 ∧ figB ts[p + 4 + 4 * i].text c.needs[i].code = true
  comma : ∀ i, i < c.needs.length → ∃ h : p + 5 + 4 * i < ts.length, seesB ts[p + 5 + 4 * i] ⟨#[44]⟩ = decide (i + 1 < c.needs.length)
  unl : ∃ h : p + 1 + 4 * c.needs.length < ts.length, seesB ts[p + 1 + 4 * c.needs.length] sUnless = decide (0 < c.excl.length)
  ex : ∀ i (hi : i < c.excl.length), ∃ h : p + 2 + 4 * c.needs.length + 2 * i < ts.length, ts[p + 2 + 4 * c.needs.length + 2 * i].kind = 1 ∧ ts[p + 2 + 4 * c.needs.length + 2 * i].text = c.excl[i]
  xcomma : ∀ i, i < c.excl.length → ∃ h : p + 3 + 4 * c.needs.length + 2 * i < ts.length, seesB ts[p + 3 + 4 * c.needs.length + 2 * i] ⟨#[44]⟩ = decide (i + 1 < c.excl.length)
  semi : ∃ h : p + 1 + 4 * c.needs.length + 2 * c.excl.length < ts.length, seesB ts[p + 1 + 4 * c.needs.length + 2 * c.excl.length] ⟨#[59]⟩ = true
theorem causeAt_of {ts : List Tok} {p : Nat} {c : Cs} (h : causeB ts p c = true) : CauseAt ts p c := by
  simp only [causeB, Bool.and_eq_true, decide_eq_true_eq, List.all_eq_true, List.mem_range] at h
  obtain ⟨h1, h2, h3, h4, h5, h6, h7⟩ := h
  have key : ∀ i (hi : i < c.needs.length), (atB ts (p + 2 + 4 * i) (wordB c.needs[i].unit) && (atB ts (p + 3 + 4 * i) (fun t => seesB t ⟨#[58]⟩) && (atB ts (p + 4 + 4 * i) (fun t => (t.kind == 2) && figB t.text c.needs[i].code) && atB ts (p + 5 + 4 * i) (fun t => seesB t ⟨#[44]⟩ == decide (i + 1 < c.needs.length))))) = true := fun i hi => by
    have := h4 i hi
    rwa [List.getElem?_eq_getElem hi] at this
  have keyx : ∀ i (hi : i < c.excl.length), (atB ts (p + 2 + 4 * c.needs.length + 2 * i) (wordB c.excl[i]) && atB ts (p + 3 + 4 * c.needs.length + 2 * i) (fun t => seesB t ⟨#[44]⟩ == decide (i + 1 < c.excl.length))) = true := fun i hi => by
    have := h6 i hi
    rwa [List.getElem?_eq_getElem hi] at this
  have w : ∀ {i : Nat} {s : ByteArray}, atB ts i (wordB s) = true → ∃ h : i < ts.length, ts[i].kind = 1 ∧ ts[i].text = s := fun h => by
    obtain ⟨hi, h⟩ := atB_get h
    simp only [wordB, Bool.and_eq_true, beq_iff_eq, decide_eq_true_eq] at h
    exact ⟨hi, h⟩
  have e : ∀ {i : Nat} {s : ByteArray} {b : Bool}, atB ts i (fun t => seesB t s == b) = true → ∃ h : i < ts.length, seesB ts[i] s = b := fun h => by
    obtain ⟨hi, h⟩ := atB_get h
    exact ⟨hi, by simpa using h⟩
  simp only [Bool.and_eq_true] at key keyx
  exact ⟨w h1, atB_get h2, h3, fun i hi => w (key i hi).1, fun i hi => atB_get (key i hi).2.1, fun i hi => by
    obtain ⟨hi', h⟩ := atB_get (key i hi).2.2.1
    simp only [Bool.and_eq_true, beq_iff_eq] at h
    exact ⟨hi', h⟩, fun i hi => e (key i hi).2.2.2, e h5, fun i hi => w (keyx i hi).1, fun i hi => e (keyx i hi).2, atB_get h7⟩
theorem Gr.far {X : Nat → Prop} {w W : World} (h : Gr X w W) {p : Addr} (hp : w.heap.size ≤ p.block) (u : Value) : Gr X w (W.setCell p u) :=
  ⟨h.os, h.tape, h.output, by simpa [World.setCell] using h.size, fun k hk hn => (Below.heap_setCell W p u k (by omega)).trans (h.block k hk hn)⟩
theorem Gr.trans' {X Y : Nat → Prop} {w W W' : World} (h : Gr X w W) (k : Gr Y W W') (hY : ∀ j, j < w.heap.size → Y j → X j) : Gr X w W' :=
  ⟨k.os.trans h.os, k.tape.trans h.tape, k.output.trans h.output, Nat.le_trans h.size k.size, fun i hi hn => (k.block i (Nat.lt_of_lt_of_le hi h.size) (fun e => hn (hY i hi e))).trans (h.block i hi hn)⟩
theorem own_gr {X : Nat → Prop} {W W' : World} {b e s n : Nat} {v : Value} {xs : List Value} (h : W.ownsRow b e s v n xs) (hg : Gr X W W') (hX : ∀ k, v.ownBlock = some k → ¬ X k) : W'.ownsRow b e s v n xs := by
  refine ⟨h.1, ?_⟩
  rcases h.2 with h2 | ⟨g, cap, cur, h1, h2, h3, h4⟩
  · exact .inl h2
  · refine .inr ⟨g, cap, cur, h1, h2, ?_, h4⟩
    refine (hg.block g (Array.getElem?_eq_some_iff.1 h3).1 (hX g ?_)).trans h3
    rw [h1]; rfl
theorem own_far {W : World} {b e s n e' s' n' : Nat} {v v' : Value} {xs xs' : List Value} (h : W.ownsRow b e s v n xs) (h' : W.ownsRow b e' s' v' n' xs') (hne : e ≠ e') : ∀ k, v.ownBlock = some k → v'.ownBlock ≠ some k := fun k hk hk' => by
  rcases h'.2 with ⟨rfl, _⟩ | ⟨g, cap, cur, h1, h2, h3, h4⟩
  · cases hk'
  · have : k = g := by rw [h1] at hk'; simpa [Value.ownBlock] using hk'.symm
    subst this
    exact own_blk_ne h (show Blk W k e' cur from h3) hne hk
/-- a cause being read: the parser's block g, the cause's own block Bc, its two rows. -/
structure CauSt (w : World) (g Bc : Nat) (A : Option Addr) (c : Nat) (ts : List Tok) (sz : Int) (u : ByteArray) (nd : List Rep) (vn : Value) (ex : List ByteArray) (vx : Value) (now : Nat) (W : World) : Prop where
  inb : InB W g A c ts now sz
  gr : Gr (· = g) w W
  hg : g < w.heap.size
  res : Blk W w.heap.size 29 #[.string ⟨#[]⟩, .slice none 0 0, .slice none 0 0]
  blk : Blk W Bc 29 #[.string u, vn, vx]
  hBc : w.heap.size < Bc
  nd : W.ownsRow w.heap.size 32 2 vn nd.length (nd.flatMap Rep.cells)
  ex : W.ownsRow w.heap.size 9 1 vx ex.length (ex.map Value.string)
section
variable {w W W' : World} {g Bc : Nat} {A : Option Addr} {c : Nat} {ts : List Tok} {sz : Int} {u : ByteArray} {nd : List Rep} {vn : Value} {ex : List ByteArray} {vx : Value} {now now' : Nat}
theorem CauSt.ltBc (h : CauSt w g Bc A c ts sz u nd vn ex vx now W) : Bc < W.heap.size := h.blk.lt
theorem CauSt.next (h : CauSt w g Bc A c ts sz u nd vn ex vx now W) (hI : InB W' g A c ts now' sz) (hG : Gr (· = g) W W') : CauSt w g Bc A c ts sz u nd vn ex vx now' W' :=
  ⟨hI, h.gr.trans hG, h.hg, hG.blk h.res (by have := h.hg; omega), hG.blk h.blk (by have := h.hg; have := h.hBc; omega), h.hBc,
    own_gr h.nd hG (fun k hk e => by have := (h.nd.lt k hk).1; have := h.hg; omega), own_gr h.ex hG (fun k hk e => by have := (h.ex.lt k hk).1; have := h.hg; omega)⟩
theorem CauSt.below (h : CauSt w g Bc A c ts sz u nd vn ex vx now W) (hb : Below W.heap.size W W') : CauSt w g Bc A c ts sz u nd vn ex vx now W' := h.next (h.inb.below hb) (Gr.of_below hb)
theorem CauSt.drew_ (h : CauSt w g Bc A c ts sz u nd vn ex vx now W) : CauSt w g Bc A c ts sz u nd vn ex vx now W.drew := h.below (Below.refl _ _).drew
theorem InB.far (h : InB W g A c ts now sz) {p : Addr} (hp : g < p.block) (v : Value) : InB (W.setCell p v) g A c ts now sz :=
  ⟨h.blk.far (by omega) v, h.toks.to_ (Nat.le_refl _) fun b o hlt => World.cell?_of_block (Below.heap_setCell W p v b (by simp; omega))⟩
/-- one more report. -/
theorem CauSt.need {v' : Value} {o : Obj} (h : CauSt w g Bc A c ts sz u nd vn ex vx now W) (x : Rep) (hown : W'.ownsRow w.heap.size 32 2 v' (nd.length + 1) (nd.flatMap Rep.cells ++ x.cells)) (hG : (W.alloc o).grownBy W' vn.ownBlock) :
    CauSt w g Bc A c ts sz u (nd ++ [x]) v' ex vx now (W'.setCell ⟨Bc, 1, none⟩ v') := by
  have h1 := h.below (W' := W.alloc o) ((Below.refl _ _).alloc (Nat.le_refl _) _)
  have hgr : Gr (fun k => vn.ownBlock = some k) (W.alloc o) W' := Gr.of_grown hG (fun k e => e)
  have hge : ∀ k, vn.ownBlock = some k → w.heap.size ≤ k := fun k hk => (h1.nd.lt k hk).1
  have hBc := h.hBc
  have hgl := h.hg
  have hb : Blk W' Bc 29 #[.string u, vn, vx] := hgr.blk h1.blk (own_blk_ne h1.nd h1.blk (by decide))
  have hr : Blk W' w.heap.size 29 #[.string ⟨#[]⟩, .slice none 0 0, .slice none 0 0] := hgr.blk h1.res (own_blk_ne h1.nd h1.res (by decide))
  have hi : InB W' g A c ts now sz := h1.inb.kept hgr (fun k hk e => by have := hge k e; omega)
  have hx : W'.ownsRow w.heap.size 9 1 vx ex.length (ex.map Value.string) := own_gr h1.ex hgr (own_far h1.ex h1.nd (by decide))
  have hgw : Gr (· = g) w W' := h1.gr.trans' hgr (fun k hk e => by have := hge k e; omega)
  have hS : Gr (· = Bc) W' (W'.setCell ⟨Bc, 1, none⟩ v') := Gr.setCell _ _ _ rfl
  exact ⟨hi.far (show g < Bc by omega) _, hgw.far (show w.heap.size ≤ Bc by omega) _, h.hg, hr.far (show w.heap.size ≠ Bc by omega) _, by simpa using hb.set_ 1 v', hBc,
    by simpa using own_gr hown hS (fun k hk e => own_blk_ne hown hb (by decide) (e ▸ hk)), own_gr hx hS (fun k hk e => own_blk_ne hx hb (by decide) (e ▸ hk))⟩
/-- one more excluded unit. -/
theorem CauSt.exc {v' : Value} {o : Obj} (h : CauSt w g Bc A c ts sz u nd vn ex vx now W) (x : ByteArray) (hown : W'.ownsRow w.heap.size 9 1 v' (ex.length + 1) (ex.map Value.string ++ [.string x])) (hG : (W.alloc o).grownBy W' vx.ownBlock) :
    CauSt w g Bc A c ts sz u nd vn (ex ++ [x]) v' now (W'.setCell ⟨Bc, 2, none⟩ v') := by
  have h1 := h.below (W' := W.alloc o) ((Below.refl _ _).alloc (Nat.le_refl _) _)
  have hgr : Gr (fun k => vx.ownBlock = some k) (W.alloc o) W' := Gr.of_grown hG (fun k e => e)
  have hge : ∀ k, vx.ownBlock = some k → w.heap.size ≤ k := fun k hk => (h1.ex.lt k hk).1
  have hBc := h.hBc
  have hgl := h.hg
  have hb : Blk W' Bc 29 #[.string u, vn, vx] := hgr.blk h1.blk (own_blk_ne h1.ex h1.blk (by decide))
  have hr : Blk W' w.heap.size 29 #[.string ⟨#[]⟩, .slice none 0 0, .slice none 0 0] := hgr.blk h1.res (own_blk_ne h1.ex h1.res (by decide))
  have hi : InB W' g A c ts now sz := h1.inb.kept hgr (fun k hk e => by have := hge k e; omega)
  have hx : W'.ownsRow w.heap.size 32 2 vn nd.length (nd.flatMap Rep.cells) := own_gr h1.nd hgr (own_far h1.nd h1.ex (by decide))
  have hgw : Gr (· = g) w W' := h1.gr.trans' hgr (fun k hk e => by have := hge k e; omega)
  have hS : Gr (· = Bc) W' (W'.setCell ⟨Bc, 2, none⟩ v') := Gr.setCell _ _ _ rfl
  exact ⟨hi.far (show g < Bc by omega) _, hgw.far (show w.heap.size ≤ Bc by omega) _, h.hg, hr.far (show w.heap.size ≠ Bc by omega) _, by simpa using hb.set_ 2 v', hBc,
    own_gr hx hS (fun k hk e => own_blk_ne hx hb (by decide) (e ▸ hk)), by simpa using own_gr hown hS (fun k hk e => own_blk_ne hown hb (by decide) (e ▸ hk))⟩
end
/-- the cause is handed back. -/
theorem CauSt.fin {w W : World} {g Bc : Nat} {A : Option Addr} {c : Nat} {ts : List Tok} {sz : Int} {cs : Cs} {An Ax : Option Addr} {cn cx now : Nat} (h : CauSt w g Bc A c ts sz cs.unit cs.needs (.slice An cs.needs.length cn) cs.excl (.slice Ax cs.excl.length cx) now W)
    (hn1 : cs.needs.length ≤ cn) (hn2 : cn ≤ maxLen) (hx1 : cs.excl.length ≤ cx) (hx2 : cx ≤ maxLen) :
    (((W.setCell ⟨w.heap.size, 0, none⟩ (.string cs.unit)).setCell ⟨w.heap.size, 1, none⟩ (.slice An cs.needs.length cn)).setCell ⟨w.heap.size, 2, none⟩ (.slice Ax cs.excl.length cx)).cell? ⟨w.heap.size, 0, none⟩ = some (.string cs.unit) ∧
    (((W.setCell ⟨w.heap.size, 0, none⟩ (.string cs.unit)).setCell ⟨w.heap.size, 1, none⟩ (.slice An cs.needs.length cn)).setCell ⟨w.heap.size, 2, none⟩ (.slice Ax cs.excl.length cx)).cell? ⟨w.heap.size, 1, none⟩ = some (.slice An cs.needs.length cn) ∧
    (((W.setCell ⟨w.heap.size, 0, none⟩ (.string cs.unit)).setCell ⟨w.heap.size, 1, none⟩ (.slice An cs.needs.length cn)).setCell ⟨w.heap.size, 2, none⟩ (.slice Ax cs.excl.length cx)).cell? ⟨w.heap.size, 2, none⟩ = some (.slice Ax cs.excl.length cx) ∧
    OwnCs (((W.setCell ⟨w.heap.size, 0, none⟩ (.string cs.unit)).setCell ⟨w.heap.size, 1, none⟩ (.slice An cs.needs.length cn)).setCell ⟨w.heap.size, 2, none⟩ (.slice Ax cs.excl.length cx)) w.heap.size ⟨cs, ⟨An, cs.needs.length, cn⟩, ⟨Ax, cs.excl.length, cx⟩⟩ ∧
    InB (((W.setCell ⟨w.heap.size, 0, none⟩ (.string cs.unit)).setCell ⟨w.heap.size, 1, none⟩ (.slice An cs.needs.length cn)).setCell ⟨w.heap.size, 2, none⟩ (.slice Ax cs.excl.length cx)) g A c ts now sz ∧
    Gr (· = g) w (((W.setCell ⟨w.heap.size, 0, none⟩ (.string cs.unit)).setCell ⟨w.heap.size, 1, none⟩ (.slice An cs.needs.length cn)).setCell ⟨w.heap.size, 2, none⟩ (.slice Ax cs.excl.length cx)) := by
  have hr := ((h.res.set_ 0 (.string cs.unit)).set_ 1 (.slice An cs.needs.length cn)).set_ 2 (.slice Ax cs.excl.length cx)
  have hg := h.hg
  have hS : Gr (· = w.heap.size) W (((W.setCell ⟨w.heap.size, 0, none⟩ (.string cs.unit)).setCell ⟨w.heap.size, 1, none⟩ (.slice An cs.needs.length cn)).setCell ⟨w.heap.size, 2, none⟩ (.slice Ax cs.excl.length cx)) :=
    ((Gr.setCell (X := (· = w.heap.size)) W ⟨w.heap.size, 0, none⟩ (.string cs.unit) rfl).trans (Gr.setCell (X := (· = w.heap.size)) _ ⟨w.heap.size, 1, none⟩ (.slice An cs.needs.length cn) rfl)).trans (Gr.setCell (X := (· = w.heap.size)) _ ⟨w.heap.size, 2, none⟩ (.slice Ax cs.excl.length cx) rfl)
  have hn := own_gr h.nd hS (fun k hk e => own_blk_ne h.nd h.res (by decide) (e ▸ hk))
  have hx := own_gr h.ex hS (fun k hk e => own_blk_ne h.ex h.res (by decide) (e ▸ hk))
  exact ⟨hr.cell 0, hr.cell 1, hr.cell 2, ⟨rfl, hn1, hn2, hn, rfl, hx1, hx2, hx⟩, h.inb.kept hS (fun k hk e => by omega), ((h.gr.far (p := ⟨w.heap.size, 0, none⟩) (Nat.le_refl _) _).far (p := ⟨w.heap.size, 1, none⟩) (Nat.le_refl _) _).far (p := ⟨w.heap.size, 2, none⟩) (Nat.le_refl _) _⟩
def nowOf (g : Nat) (w : World) : Nat := match w.cell? ⟨g, 1, none⟩ with | some (.int _ n) => n.toNat | _ => 0
theorem InB.nowOf {w : World} {g : Nat} {A : Option Addr} {c : Nat} {ts : List Tok} {now : Nat} {sz : Int} (h : InB w g A c ts now sz) : nowOf g w = now := by
  have : w.cell? ⟨g, 1, none⟩ = some (.int .i64 now) := h.blk.cell 1
  unfold YtknojjlfgjkbiaaGreatDoor.nowOf
  rw [this]; simp
end Go.Proofs.YtknojjlfgjkbiaaGreatDoor
/- A range over an iterator that gives one thing, and that changes a block of its own. -/
namespace Go.Proofs.YtknojjlfgjkbiaaGreatDoor
open Go.ChangeShapes Go.WideShapes Go.ChangeAt Go.RowKit
attribute [local go_sem] Oper.semAt_some

theorem putObj_gr (W : World) (l : Nat) (o : Obj) : Gr (· = l) W (W.putObj l o) := ⟨rfl, rfl, rfl, by simp, fun k hk hn => World.putObj_heap_other hn⟩
theorem range_one {g : Operand} {ps : Array Tmp} {assign body : Code} {Q : Exit → Act → World → Prop} {a : Act} {w : World} {gf gm go : Nat} {lb enc : Array Value} (hgm : gm < w.heap.size) (hg : a.eval g = .func (.func gf) #[] lb)
    (eg : ∀ args w, (callFunc gf args).run Tryz.prog w = .ok (.enter gf args) w) (hps : enc.size = ps.size)
    (hiter : ∀ (l : Nat) (W : World) (J : World → Prop), Below w.heap.size w W →
      (∀ W', Gr (· = gm) W W' → YieldAt Fence.wide 7 Tryz.prog l enc W' fun e W2 => e = .returned (.bool true) ∧ W'.heap.size ≤ W2.heap.size ∧ (∀ k, k < w.heap.size → k ≠ go → W2.heap[k]? = W'.heap[k]?) ∧ J W2) →
      CallsIn Fence.wide 8 Tryz.prog gf (#[.func (.yield l) #[] #[]] ++ lb) W fun e W' => (∃ v, e = .returned v) ∧ ∃ W2, J W2 ∧ Gr (· = gm) W2 W')
    (Ax Post : Act → World → Prop) (hAx : ∀ (l : Nat) a' W (o o' : Obj), w.heap.size ≤ l → W.heap[l]? = some o → o.isCells = false → Ax a' W → Ax a' (W.putObj l o'))
    (hPost : ∀ (l : Nat) a' W (o o' : Obj), w.heap.size ≤ l → W.heap[l]? = some o → o.isCells = false → Post a' W → Post a' (W.putObj l o'))
    (hassign : ∀ (l : Nat) (W : World) (K : Act → World → Prop), w.heap.size + 2 ≤ W.heap.size → (∀ k, k < w.heap.size → k ≠ gm → W.heap[k]? = w.heap[k]?) → W.os = w.os → W.tape = w.tape → W.output = w.output →
      (∀ a' W', KeepsFrom w.heap.size W W' → (∀ k, k < w.heap.size → W'.heap[k]? = W.heap[k]?) → Ax a' W' → K a' W') →
      assign.wpIn (Fence.wide.inRound l) 7 Tryz.prog (Exit.then K (fun _ _ _ => False)) { tmps := (ps.zip enc).foldl (fun t (p, v) => t.setIfInBounds p v) a.tmps, defers := [] } W)
    (hbody : ∀ (l : Nat) (a' : Act) (W : World), Ax a' W → body.wpIn (Fence.wide.inRound l) 7 Tryz.prog (fun e a3 W3 => e = .normal ∧ KeepsFrom w.heap.size W W3 ∧ (∀ k, k < w.heap.size → k ≠ go → W3.heap[k]? = W.heap[k]?) ∧ Post a3 W3) a' W)
    (hdone : ∀ (D : Nat) (a3 : Act) (W2 W3 : World), w.heap.size ≤ D → Post a3 W2 → Gr (· = gm) W2 W3 → W3.heap[D]? = some (.deferred (some [])) → Q .normal { a with defers := { target := .collected D, args := #[] } :: a.defers } W3) :
    (Code.rangeFunc g ps assign body).wpIn Fence.wide 9 Tryz.prog Q a w := by
  refine wpIn_rangeFunc ?_
  intro fn hfn
  obtain ⟨rec, hrec⟩ : ∃ rec : LoopState → Option Code → Loop, rec = fun st pe => { state := st, pending := pe, fn, tmps := a.tmps, params := ps, assign, body, defers := w.heap.size } := ⟨_, rfl⟩
  obtain ⟨W1, hW1⟩ : ∃ W1, W1 = (w.alloc (.deferred (some []))).alloc (.loop (rec .ready none)) := ⟨_, rfl⟩
  have hl1 : W1.heap[w.heap.size + 1]? = some (.loop (rec .ready none)) := by
    rw [hW1]; have := World.alloc_heap_new (w.alloc (.deferred (some []))) (.loop (rec .ready none)); rwa [World.size_alloc] at this
  have hd1 : W1.heap[w.heap.size]? = some (.deferred (some [])) := by
    rw [hW1]; exact (Below.heap_alloc _ _ _ (by simp)).trans (World.alloc_heap_new w _)
  have hb1 : Below w.heap.size w W1 := by rw [hW1]; exact ((Below.refl _ w).alloc (Nat.le_refl _) _).alloc (by simp) _
  have hz1 : W1.heap.size = w.heap.size + 2 := by rw [hW1]; simp
  refine ⟨w.heap.size + 1, [{ target := .collected w.heap.size, args := #[] }], W1, { target := .fn (.func gf) lb, args := #[.func (.yield (w.heap.size + 1)) #[] #[]] }, W1, gf, #[.func (.yield (w.heap.size + 1)) #[] #[]] ++ lb, W1, ?_, ?_, ?_, ?_, fun _ => by omega, ?_⟩
  · rw [hW1, hrec]; exact run_enterLoop_outer _ _ _ _ _
  · simp only [resolve, hg]; simp [go_sem]
  · intro f' hf'; simp [Target.leads] at hf'; subst hf'; trivial
  · simp [invoke, go_sem, eg]
  · refine (hiter (w.heap.size + 1) W1 (fun W => (∃ a3, Post a3 W) ∧ W.heap[w.heap.size + 1]? = some (.loop (rec .ready none)) ∧ W.heap[w.heap.size]? = some (.deferred (some []))) hb1 ?_).mono ?_
    · intro W hG
      have hl : W.heap[w.heap.size + 1]? = some (.loop (rec .ready none)) := (hG.block _ (by omega) (by omega)).trans hl1
      have hk : W.heap[w.heap.size]? = some (.deferred (some [])) := (hG.block _ (by omega) (by omega)).trans hd1
      have hy := run_yield (P := Tryz.prog) (args := enc) hl (by rw [hrec]; exact hps)
      rw [hrec] at hy
      have hsz := hG.size
      refine ⟨fn, _, assign, body, hy, roundIn_of_wpIn hfn (hassign _ W _ (by omega) (fun k hk hn => (hG.block k (by omega) hn).trans (hb1.block k hk)) (hG.os.trans hb1.os) (hG.tape.trans hb1.tape) (hG.output.trans hb1.output) ?_)⟩
      intro a' Wa hkf hsame hax
      have hla := hkf.same _ _ (by omega) hl rfl
      have hka := hkf.same _ _ (Nat.le_refl _) hk rfl
      have hlt : w.heap.size + 1 < Wa.heap.size := (Array.getElem?_eq_some_iff.1 hla).1
      refine ⟨_, run_beginRound hla (by rw [hrec]), ?_⟩
      have hl2 : (Wa.putObj (w.heap.size + 1) (.loop { rec .ready none with state := .busy })).heap[w.heap.size + 1]? = some (.loop { rec .ready none with state := .busy }) := World.putObj_heap_same hlt
      have hk2 : (Wa.putObj (w.heap.size + 1) (.loop { rec .ready none with state := .busy })).heap[w.heap.size]? = some (.deferred (some [])) := (World.putObj_heap_other (by omega)).trans hka
      refine wpIn_mono (hbody _ a' _ (hAx _ _ _ _ _ (by omega) hla rfl hax)) ?_
      rintro e a3 W3 ⟨rfl, hk3, hs3, hp3⟩
      have hl3 := hk3.same _ _ (by omega) hl2 rfl
      have hkk3 := hk3.same _ _ (Nat.le_refl _) hk2 rfl
      have hlt3 : w.heap.size + 1 < W3.heap.size := (Array.getElem?_eq_some_iff.1 hl3).1
      have hr := run_endRound (P := Tryz.prog) none hl3
      have hz3 := hk3.size
      refine ⟨_, _, hr, rfl, ?_, fun k hk hkg => ?_, ⟨a3, hPost _ _ _ _ _ (by omega) hl3 rfl hp3⟩, ?_, (World.putObj_heap_other (by omega)).trans hkk3⟩
      · have := hkf.size
        simp at hz3 ⊢; omega
      · exact (World.putObj_heap_other (by omega)).trans ((hs3 k hk hkg).trans ((World.putObj_heap_other (by omega)).trans (hsame k hk)))
      · refine (World.putObj_heap_same hlt3).trans ?_
        rw [hrec]; rfl
    · rintro e W3 ⟨⟨v, rfl⟩, W2, ⟨⟨a3, hp⟩, hl, hk⟩, hG⟩
      have hlt := (Array.getElem?_eq_some_iff.1 hl).1
      have hl3 : W3.heap[w.heap.size + 1]? = some (.loop (rec .ready none)) := (hG.block _ hlt (by omega)).trans hl
      have hk3 : W3.heap[w.heap.size]? = some (.deferred (some [])) := (hG.block _ (by omega) (by omega)).trans hk
      have hr := run_endLoop (P := Tryz.prog) hl3 (by rw [hrec]; simp)
      rw [show (rec .ready none).pending = none by rw [hrec]] at hr
      refine ⟨none, _, hr, ?_⟩
      have hG2 : ∀ o' : Obj, Gr (· = gm) (W2.putObj (w.heap.size + 1) o') (W3.putObj (w.heap.size + 1) o') := fun o' =>
        ⟨hG.os, hG.tape, hG.output, by simpa using hG.size, fun k hk' hn => by
          by_cases e : k = w.heap.size + 1
          · subst e
            rw [World.putObj_heap_same (Array.getElem?_eq_some_iff.1 hl3).1, World.putObj_heap_same hlt]
          · rw [World.putObj_heap_other e, World.putObj_heap_other e]
            exact hG.block k (by simpa using hk') hn⟩
      exact hdone _ a3 _ _ (Nat.le_refl _) (hPost _ _ _ _ _ (by omega) hl rfl hp) (hG2 _) ((World.putObj_heap_other (by omega)).trans hk3)
end Go.Proofs.YtknojjlfgjkbiaaGreatDoor
/- lex: the scanner's next, on a word of one letter. -/
namespace Go.Proofs.YtknojjlfgjkbiaaGreatDoor
open Go.ChangeShapes Go.WideShapes Go.ChangeAt Go.RowKit
attribute [local go_sem] Oper.semAt_some

theorem ScB.below {w w' : World} {g : Nat} {s : ByteArray} {k : Nat} {v0 v1 v2 v3 : Value} (h : ScB w g s k v0 v1 v2 v3) (hb : Below w.heap.size w w') : ScB w' g s k v0 v1 v2 v3 := Blk.below h hb (Blk.lt h)
set_option maxRecDepth 100000 in
set_option maxHeartbeats 2000000 in
theorem next_c (g Be : Nat) (s : ByteArray) (b : Int) (f2 f3 : Fn) (lb2 lb3 : Array Value) (w : World) (hs : s.size = 1) (hb : bAt s 0 = b) (ht : TestAt w 358 #[.pointer (some ⟨Be, 0, none⟩)] b true)
    (h : ScB w g s 0 .nilFunc (.func (.func 358) #[] #[.pointer (some ⟨Be, 0, none⟩)]) (.func f2 #[] lb2) (.func f3 #[] lb3)) (hex : s.extract 0 1 = s) :
    Calls Tryz.prog 349 #[.pointer (some ⟨g, 0, none⟩)] w fun e w' => e = .returned (.tuple #[.agg #[.int .u8 1, .string s, .int .i64 0], .int .i64 0]) ∧
      ScB w' g s 1 .nilFunc (.func (.func 358) #[] #[.pointer (some ⟨Be, 0, none⟩)]) (.func f2 #[] lb2) (.func f3 #[] lb3) ∧ Gr (· = g) w w' := by
  obtain ⟨w1, hw1⟩ : ∃ w1, w1 = (w.alloc (.cells #[.int .u8 0, .string ⟨#[]⟩, .int .i64 0] 318)).alloc (.cells #[.int .u8 1, .string ⟨#[]⟩, .int .i64 0] 318) := ⟨_, rfl⟩
  have hB1 : Below w.heap.size w w1 := by rw [hw1]; exact ((Below.refl _ w).alloc (Nat.le_refl _) _).alloc (by simp) _
  have hr : Blk w1 w.heap.size 318 #[.int .u8 0, .string ⟨#[]⟩, .int .i64 0] := by rw [hw1]; exact (Blk.new w _ _).alloc _
  have ht4 : Blk w1 (w.heap.size + 1) 318 #[.int .u8 1, .string ⟨#[]⟩, .int .i64 0] := by
    rw [hw1]; exact blk_at' (w.alloc (.cells #[.int .u8 0, .string ⟨#[]⟩, .int .i64 0] 318)) (w.heap.size + 1) 318 _ (by simp)
  have hS1 := ScB.below h hB1
  have hmore := fun n => more_at 358 #[.pointer (some ⟨Be, 0, none⟩)] b true (w1.drewN n) (ScB.below hS1 (only_below (Below.refl _ _))) (by omega) hb (enters_of Tryz.func358 (by kernel_rfl) rfl) (ht.next (only_below hB1))
  have k1 : w.cell? ⟨g, 1, none⟩ = some (.int .i64 0) := Blk.cell h 1
  have j3 : w1.cell? ⟨g, 3, none⟩ = some (.func (.func 358) #[] #[.pointer (some ⟨Be, 0, none⟩)]) := Blk.cell hS1 3
  have j40 : w1.cell? ⟨w.heap.size + 1, 0, none⟩ = some (.int .u8 1) := ht4.cell 0
  have hgl : g < w.heap.size := Blk.lt h
  have Hw1 := Lib.hid hw1
  have HB1 := Lib.hid hB1
  have Hr := Lib.hid hr
  have Ht4 := Lib.hid ht4
  have HS1 := Lib.hid hS1
  have Hmore := Lib.hid hmore
  have Hs := Lib.hid hs
  have Hex := Lib.hid hex
  have k1' : (w.alloc (.cells #[.int .u8 0, .string ⟨#[]⟩, .int .i64 0] 318)).cell? ⟨g, 1, none⟩ = some (.int .i64 0) := (Blk.alloc h _).cell 1
  clear hw1 hB1 hr ht4 hS1 hmore hs hex h ht k1
  go_enter Tryz.func349, Tryz.ntmps349
  go_wp2_with fail
  rw [← Hw1.out]
  go_loopw [] (fun wr => wr = w1) (fun wr => 0)
  case atStart => rfl
  case round =>
    subst hrel
    go_wp2_with fail
    go_quiet ((go_at_call 363; exact Calls.quiet_of (Hmore.out _)))
    have hby : Below wr.heap.size wr (wr.drewN nq) := only_below (Below.refl _ _)
    have hSy := ScB.below HS1.out hby
    have hry := Hr.out.below hby Hr.out.lt
    have hty := Ht4.out.below hby Ht4.out.lt
    have hBy := HB1.out.trans (hby.mono HB1.out.size)
    clear hby j3 j40 Hmore
    generalize wr.drewN nq = y at *
    obtain ⟨W7, hW7⟩ : ∃ W7, W7 = y.setCell ⟨g, 1, none⟩ (.int .i64 1) := ⟨_, rfl⟩
    have hG7 : Gr (· = g) y W7 := by rw [hW7]; exact Gr.setCell (X := (· = g)) y ⟨g, 1, none⟩ _ rfl
    have hS7 : ScB W7 g s 1 .nilFunc (.func (.func 358) #[] #[.pointer (some ⟨Be, 0, none⟩)]) (.func f2 #[] lb2) (.func f3 #[] lb3) := by
      have := Blk.set_ hSy 1 (.int .i64 1)
      rw [hW7]
      simpa [ScB] using this
    have hr7 := hG7.blk hry (by omega)
    have ht7 := hG7.blk hty (by omega)
    have y1 : y.cell? ⟨g, 1, none⟩ = some (.int .i64 0) := Blk.cell hSy 1
    have yf : y.frozen? ⟨g, 1, none⟩ = false := Blk.frozen hSy 1
    have m0 : y.cell? ⟨w.heap.size + 1, 0, none⟩ = some (.int .u8 1) := hty.cell 0
    have hHeld : W7.drew.cell? ⟨g, 3, none⟩ = some (.func (.func 358) #[] #[.pointer (some ⟨Be, 0, none⟩)]) ∧ W7.drew.cell? ⟨g, 4, none⟩ = some (.func f2 #[] lb2) := ⟨Blk.cell hS7 3, Blk.cell hS7 4⟩
    have HS7 := Lib.hid hS7
    have Hr7 := Lib.hid hr7
    have Ht7 := Lib.hid ht7
    have hGw7 : Gr (· = g) w W7 := (Gr.of_below hBy).trans hG7
    have HG7 := Lib.hid hGw7
    have HW7 := Lib.hid hW7
    clear hSy hry hty hBy hG7 hS7 hr7 ht7 hW7 hGw7 HB1 Hr Ht4 HS1
    go_wp2_with fail
    rw [← HW7.out]
    refine wp_region_S (fun W => W.cell? ⟨g, 3, none⟩ = some (.func (.func 358) #[] #[.pointer (some ⟨Be, 0, none⟩)]) ∧ W.cell? ⟨g, 4, none⟩ = some (.func f2 #[] lb2)) 16 (by kernel_rfl) hHeld (fun hHeld => ?_)
    refine wpAnyS_take (i := 0) (v := ?_) rfl (by kernel_rfl) (by kernel_rfl) (by kernel_rfl) (by kernel_rfl) (fun c a w h => h) (Or.inl ⟨by rfl, ?_⟩) hHeld ?_
    rotate_left
    · intro w hSw
      obtain ⟨hSw1, hSw2⟩ := hSw
      go_simp
      first | done | with_reducible rfl
    simp only [Act.put, List.setIfInBounds_toArray, List.set_cons_zero, List.set_cons_succ]
    refine wpAnyS_take (i := 1) (v := ?_) rfl (by kernel_rfl) (by kernel_rfl) (by kernel_rfl) (by kernel_rfl) (fun c a w h => h) (Or.inl ⟨by rfl, ?_⟩) hHeld ?_
    rotate_left
    · intro w hSw
      obtain ⟨hSw1, hSw2⟩ := hSw
      go_simp
      first | done | with_reducible rfl
    simp only [Act.put, List.setIfInBounds_toArray, List.set_cons_zero, List.set_cons_succ]
    refine wpAnyS_take (i := 2) (v := ?_) rfl (by kernel_rfl) (by kernel_rfl) (by kernel_rfl) (by kernel_rfl) (fun c a w h => h) (Or.inl ⟨by rfl, ?_⟩) hHeld ?_
    rotate_left
    · intro w hSw
      obtain ⟨hSw1, hSw2⟩ := hSw
      go_simp
      first | done | with_reducible rfl
    simp only [Act.put, List.setIfInBounds_toArray, List.set_cons_zero, List.set_cons_succ]
    refine wpAnyS_take (i := 3) (v := ?_) rfl (by kernel_rfl) (by kernel_rfl) (by kernel_rfl) (by kernel_rfl) (fun c a w h => h) (Or.inl ⟨by rfl, ?_⟩) hHeld ?_
    rotate_left
    · intro w hSw
      obtain ⟨hSw1, hSw2⟩ := hSw
      go_simp
      first | done | with_reducible rfl
    simp only [Act.put, List.setIfInBounds_toArray, List.set_cons_zero, List.set_cons_succ]
    refine wpAnyS_take (i := 4) (v := ?_) rfl (by kernel_rfl) (by kernel_rfl) (by kernel_rfl) (by kernel_rfl) (fun c a w h => h) (Or.inl ⟨by rfl, ?_⟩) hHeld ?_
    rotate_left
    · intro w hSw
      obtain ⟨hSw1, hSw2⟩ := hSw
      go_simp
      first | done | with_reducible rfl
    simp only [Act.put, List.setIfInBounds_toArray, List.set_cons_zero, List.set_cons_succ]
    refine wpAnyS_take (i := 5) (v := ?_) rfl (by kernel_rfl) (by kernel_rfl) (by kernel_rfl) (by kernel_rfl) (fun c a w h => h) (Or.inl ⟨by rfl, ?_⟩) hHeld ?_
    rotate_left
    · intro w hSw
      obtain ⟨hSw1, hSw2⟩ := hSw
      go_simp
      first | done | with_reducible rfl
    simp only [Act.put, List.setIfInBounds_toArray, List.set_cons_zero, List.set_cons_succ]
    refine wpAnyS_take (i := 6) (v := ?_) rfl (by kernel_rfl) (by kernel_rfl) (by kernel_rfl) (by kernel_rfl) (fun c a w h => h) (Or.inl ⟨by rfl, ?_⟩) hHeld ?_
    rotate_left
    · intro w hSw
      obtain ⟨hSw1, hSw2⟩ := hSw
      go_simp
      first | done | with_reducible rfl
    simp only [Act.put, List.setIfInBounds_toArray, List.set_cons_zero, List.set_cons_succ]
    refine wpAnyS_take (i := 7) (v := ?_) rfl (by kernel_rfl) (by kernel_rfl) (by kernel_rfl) (by kernel_rfl) (fun c a w h => h) (Or.inl ⟨by rfl, ?_⟩) hHeld ?_
    rotate_left
    · intro w hSw
      obtain ⟨hSw1, hSw2⟩ := hSw
      go_simp
      first | done | with_reducible rfl
    simp only [Act.put, List.setIfInBounds_toArray, List.set_cons_zero, List.set_cons_succ]
    refine wpAnyS_take (i := 8) (v := ?_) rfl (by kernel_rfl) (by kernel_rfl) (by kernel_rfl) (by kernel_rfl) (fun c a w h => h) (Or.inl ⟨by rfl, ?_⟩) hHeld ?_
    rotate_left
    · intro w hSw
      obtain ⟨hSw1, hSw2⟩ := hSw
      go_simp
      first | done | with_reducible rfl
    simp only [Act.put, List.setIfInBounds_toArray, List.set_cons_zero, List.set_cons_succ]
    refine wpAnyS_take (i := 9) (v := ?_) rfl (by kernel_rfl) (by kernel_rfl) (by kernel_rfl) (by kernel_rfl) (fun c a w h => h) (Or.inl ⟨by rfl, ?_⟩) hHeld ?_
    rotate_left
    · intro w hSw
      obtain ⟨hSw1, hSw2⟩ := hSw
      go_simp
      first | done | with_reducible rfl
    simp only [Act.put, List.setIfInBounds_toArray, List.set_cons_zero, List.set_cons_succ]
    refine wpAnyS_take (i := 10) (v := ?_) rfl (by kernel_rfl) (by kernel_rfl) (by kernel_rfl) (by kernel_rfl) (fun c a w h => h) (Or.inl ⟨by rfl, ?_⟩) hHeld ?_
    rotate_left
    · intro w hSw
      obtain ⟨hSw1, hSw2⟩ := hSw
      go_simp
      first | done | with_reducible rfl
    simp only [Act.put, List.setIfInBounds_toArray, List.set_cons_zero, List.set_cons_succ]
    refine wpAnyS_take (i := 11) (v := ?_) rfl (by kernel_rfl) (by kernel_rfl) (by kernel_rfl) (by kernel_rfl) (fun c a w h => h) (Or.inl ⟨by rfl, ?_⟩) hHeld ?_
    rotate_left
    · intro w hSw
      obtain ⟨hSw1, hSw2⟩ := hSw
      go_simp
      first | done | with_reducible rfl
    simp only [Act.put, List.setIfInBounds_toArray, List.set_cons_zero, List.set_cons_succ]
    refine wpAnyS_take (i := 12) (v := ?_) rfl (by kernel_rfl) (by kernel_rfl) (by kernel_rfl) (by kernel_rfl) (fun c a w h => h) (Or.inl ⟨by rfl, ?_⟩) hHeld ?_
    rotate_left
    · intro w hSw
      obtain ⟨hSw1, hSw2⟩ := hSw
      go_simp
      first | done | with_reducible rfl
    simp only [Act.put, List.setIfInBounds_toArray, List.set_cons_zero, List.set_cons_succ]
    refine wpAnyS_ready (rs := [13]) (by kernel_rfl) (by simp) ?_
    refine AllReadyS.cons rfl (fun K hK => ?_) AllReadyS.nil
    go_simp
    refine (among_c _ _).mono ?_
    rintro e w' ⟨rfl, rfl⟩
    have hb8 : Below W7.heap.size W7 (W7.drew.alloc (.cells #[.string ⟨#[95]⟩] 9)) := (Below.refl _ W7).drew.alloc (Nat.le_refl _) _
    have HeldB : ∀ W, Below W7.heap.size W7 W → W.cell? ⟨g, 3, none⟩ = some (.func (.func 358) #[] #[.pointer (some ⟨Be, 0, none⟩)]) ∧ W.cell? ⟨g, 4, none⟩ = some (.func f2 #[] lb2) := fun W hW => ⟨Blk.cell (ScB.below HS7.out hW) 3, Blk.cell (ScB.below HS7.out hW) 4⟩
    have HHeldB := Lib.hid HeldB
    have H8 := Lib.hid hb8
    refine hK.out _ _ (fun _ => HHeldB.out _ H8.out) ?_
    clear hK HeldB hb8 hHeld
    refine wpAnyS_ready (rs := [14]) (by kernel_rfl) (by simp) ?_
    refine AllReadyS.cons rfl (fun K hK => ?_) AllReadyS.nil
    go_simp
    have hb9 := H8.out.alloc H8.out.size (.cells #[.func (.func 358) #[] #[.pointer (some ⟨Be, 0, none⟩)], .func f2 #[] lb2, .func (.func 360) #[] #[.pointer (some ⟨W7.drew.heap.size, 0, none⟩)]] 265)
    have H9 := Lib.hid hb9
    refine hK.out _ _ (fun _ => HHeldB.out _ H9.out) ?_
    clear hK hb9
    refine wpAnyS_ready (rs := [15]) (by kernel_rfl) (by simp) ?_
    refine AllReadyS.cons rfl (fun K hK => ?_) AllReadyS.nil
    go_simp
    refine (either_c _ _ _ _).mono ?_
    rintro e w' ⟨rfl, hw'⟩
    have hb10 : Below W7.heap.size W7 w' := by rw [hw']; exact H9.out.alloc H9.out.size _
    have H10 := Lib.hid hb10
    refine hK.out _ _ (fun _ => HHeldB.out _ H10.out) ?_
    clear hK hb10 hw'
    refine wpAnyS_ready (rs := [16]) (by kernel_rfl) (by simp) ?_
    refine AllReadyS.cons rfl (fun K hK => ?_) AllReadyS.nil
    go_simp
    refine (while_end _ w' (ScB.below HS7.out H10.out) (by rw [Hs.out]; exact Nat.le_refl _)).mono ?_
    rintro e W11 ⟨⟨v11, rfl⟩, hb11⟩
    have H11 := Lib.hid (H10.out.trans (hb11.mono H10.out.size))
    refine hK.out _ _ (fun h => absurd h (by decide)) ?_
    clear hK hb11
    refine wpAnyS_done (by kernel_rfl) ?_ _
    have hS11 := ScB.below HS7.out H11.out
    have hr11 := Hr7.out.below H11.out Hr7.out.lt
    have ht11 := Ht7.out.below H11.out Ht7.out.lt
    have n0 : W11.drew.cell? ⟨g, 0, none⟩ = some (.string s) := Blk.cell hS11 0
    have n1 : W11.drew.cell? ⟨g, 1, none⟩ = some (.int .i64 1) := Blk.cell hS11 1
    have n2 : W11.drew.cell? ⟨w.heap.size + 1, 2, none⟩ = some (.int .i64 0) := ht11.cell 2
    have n3 : W11.drew.cell? ⟨w.heap.size + 1, 1, none⟩ = some (.string ⟨#[]⟩) := ht11.cell 1
    have n4 : W11.drew.frozen? ⟨w.heap.size + 1, 1, none⟩ = false := ht11.frozen 1
    have hsz1 : (1 : Int) ≤ (s.size : Int) := by rw [Hs.out]; exact Int.le_refl _
    have Ht11 := Lib.hid ht11
    have Hr11 := Lib.hid hr11
    have HS11 := Lib.hid hS11
    clear hS11 hr11 ht11 y1 yf m0 k1'
    go_wp2_with fail
    go_region
    rw [Hex.out]
    obtain ⟨W12, hW12⟩ : ∃ W12, W12 = (W11.setCell ⟨w.heap.size + 1, 1, none⟩ (.string s)).drew := ⟨_, rfl⟩
    have hG12 : Gr (· = w.heap.size + 1) W11 W12 := by rw [hW12]; exact (Gr.setCell (X := (· = w.heap.size + 1)) W11 ⟨w.heap.size + 1, 1, none⟩ _ rfl).trans (Gr.of_below (Below.refl _ _).drew)
    have ht12 : Blk W12 (w.heap.size + 1) 318 #[.int .u8 1, .string s, .int .i64 0] := by rw [hW12]; have := Ht11.out.set_ 1 (.string s); simpa using (this.drew)
    have hr12 := hG12.blk Hr11.out (by omega)
    have hS12 : ScB W12 g s 1 .nilFunc (.func (.func 358) #[] #[.pointer (some ⟨Be, 0, none⟩)]) (.func f2 #[] lb2) (.func f3 #[] lb3) := hG12.blk HS11.out (by omega)
    have hGw : Gr (· = g) w W12 := (HG7.out.trans (Gr.of_below H11.out)).trans' hG12 (fun k hk e => by omega)
    have t0 : W12.cell? ⟨w.heap.size + 1, 0, none⟩ = some (.int .u8 1) := ht12.cell 0
    have t1 : W12.cell? ⟨w.heap.size + 1, 1, none⟩ = some (.string s) := ht12.cell 1
    have t2 : W12.cell? ⟨w.heap.size + 1, 2, none⟩ = some (.int .i64 0) := ht12.cell 2
    have r0 : W12.cell? ⟨w.heap.size, 0, none⟩ = some (.int .u8 0) := hr12.cell 0
    have r1 : W12.cell? ⟨w.heap.size, 1, none⟩ = some (.string ⟨#[]⟩) := hr12.cell 1
    have r2 : W12.cell? ⟨w.heap.size, 2, none⟩ = some (.int .i64 0) := hr12.cell 2
    have fr0 : W12.frozen? ⟨w.heap.size, 0, none⟩ = false := hr12.frozen 0
    have fr1 : W12.frozen? ⟨w.heap.size, 1, none⟩ = false := hr12.frozen 1
    have fr2 : W12.frozen? ⟨w.heap.size, 2, none⟩ = false := hr12.frozen 2
    have hd24 : decide ((s.size : Int) > 24) = false := by rw [Hs.out]; rfl
    have HR12 := Lib.hid hr12
    have HS12 := Lib.hid hS12
    have HGw := Lib.hid hGw
    have HW12 := Lib.hid hW12
    clear hG12 ht12 hr12 hS12 hGw hW12 n0 n1 n2 n3 n4 hsz1
    rw [← HW12.out]
    go_wp2_with fail
    have hz := ((HR12.out.set_ 0 (.int .u8 1)).set_ 1 (.string s)).set_ 2 (.int .i64 0)
    have hG13 : Gr (· = w.heap.size) W12 (((W12.setCell ⟨w.heap.size, 0, none⟩ (.int .u8 1)).setCell ⟨w.heap.size, 1, none⟩ (.string s)).setCell ⟨w.heap.size, 2, none⟩ (.int .i64 0)) :=
      ((Gr.setCell (X := (· = w.heap.size)) W12 ⟨w.heap.size, 0, none⟩ _ rfl).trans (Gr.setCell (X := (· = w.heap.size)) _ ⟨w.heap.size, 1, none⟩ _ rfl)).trans (Gr.setCell (X := (· = w.heap.size)) _ ⟨w.heap.size, 2, none⟩ _ rfl)
    have hS13 := hG13.blk HS12.out (by omega)
    have hGF := HGw.out.trans' hG13 (fun k hk e => by omega)
    generalize (((W12.setCell ⟨w.heap.size, 0, none⟩ (.int .u8 1)).setCell ⟨w.heap.size, 1, none⟩ (.string s)).setCell ⟨w.heap.size, 2, none⟩ (.int .i64 0)) = W13 at *
    have z0 : W13.cell? ⟨w.heap.size, 0, none⟩ = some (.int .u8 1) := hz.cell 0
    have z1 : W13.cell? ⟨w.heap.size, 1, none⟩ = some (.string s) := hz.cell 1
    have z2 : W13.cell? ⟨w.heap.size, 2, none⟩ = some (.int .i64 0) := hz.cell 2
    exact bodyPost_ret (v := .tuple #[.agg #[.int .u8 1, .string s, .int .i64 0], .int .i64 0]) (by simp [results, Tryz.results349, go_sem, z0, z1, z2]) rfl ⟨rfl, hS13, hGF⟩
end Go.Proofs.YtknojjlfgjkbiaaGreatDoor
