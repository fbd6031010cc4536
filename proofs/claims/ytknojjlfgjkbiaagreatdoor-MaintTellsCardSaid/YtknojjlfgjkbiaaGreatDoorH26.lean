/- Texts K10 K11, joined. -/
import Derived.Test.YtknojjlfgjkbiaaGreatDoorH22
import Derived.Test.YtknojjlfgjkbiaaGreatDoorH24
import Derived.Test.YtknojjlfgjkbiaaGreatDoorH20
set_option linter.unusedSimpArgs false
set_option linter.unusedVariables false
set_option linter.unusedSectionVars false
/- The checker's rule on causes: its closures. -/
namespace Go.Proofs.YtknojjlfgjkbiaaGreatDoor
open Go.ChangeShapes Go.WideShapes Go.ChangeAt Go.RowKit
attribute [local go_sem] Oper.semAt_some

def seqB (a b : ByteArray) : Bool := a.toList == b.toList
def hasU (R : List CsV) (u : ByteArray) : Bool := R.any fun x => seqB x.c.unit u
theorem is127 (Bu : Nat) (u : ByteArray) (x : CsV) (w : World) (hb : Blk w Bu 9 #[.string u]) : Calls Tryz.prog 149 #[x.val, .pointer (some ⟨Bu, 0, none⟩)] w fun e w' => e = .returned (.bool (seqB x.c.unit u)) ∧ Below w.heap.size w w' := by
  have c0 : w.cell? ⟨Bu, 0, none⟩ = some (.string u) := hb.cell 0
  have hlt := hb.lt
  unfold seqB
  clear hb
  dsimp only [CsV.val]
  go_enter Tryz.func149, Tryz.ntmps149
  go_wp2
  go_ret
  exact ⟨rfl, (Below.refl _ w).alloc (Nat.le_refl _) _⟩
theorem is129 (Bu : Nat) (u : ByteArray) (x : CsV) (w : World) (hb : Blk w Bu 9 #[.string u]) : Calls Tryz.prog 151 #[x.val, .pointer (some ⟨Bu, 0, none⟩)] w fun e w' => e = .returned (.bool (seqB x.c.unit u)) ∧ Below w.heap.size w w' := by
  have c0 : w.cell? ⟨Bu, 0, none⟩ = some (.string u) := hb.cell 0
  have hlt := hb.lt
  unfold seqB
  clear hb
  dsimp only [CsV.val]
  go_enter Tryz.func151, Tryz.ntmps151
  go_wp2
  go_ret
  exact ⟨rfl, (Below.refl _ w).alloc (Nat.le_refl _) _⟩
/-- what the closures of the rule have captured. -/
structure ClsIn (w : World) (g Br Bk B5 B6 : Nat) (A : Option Addr) (L : List CsV) (c : Nat) (AR : Option Addr) (R : List CsV) (cR : Nat) : Prop where
  k : Blk w Bk 126 #[.pointer (some ⟨g, 0, none⟩)]
  ck : CkB w g A L.length c
  rl : RdCs w w.heap.size A L
  br : Blk w Br 22 #[.slice AR R.length cR]
  rr : RdCs w w.heap.size AR R
  b5 : Blk w B5 114 #[.func (.func 147) #[] #[.pointer (some ⟨Br, 0, none⟩)]]
  b6 : Blk w B6 114 #[.func (.func 150) #[] #[.pointer (some ⟨Bk, 0, none⟩)]]
  ll : L.length ≤ 1000
  lr : R.length ≤ 1000
section
variable {w w' : World} {g Br Bk B5 B6 : Nat} {A : Option Addr} {L : List CsV} {c : Nat} {AR : Option Addr} {R : List CsV} {cR : Nat}
theorem ClsIn.below (h : ClsIn w g Br Bk B5 B6 A L c AR R cR) (hb : Below w.heap.size w w') : ClsIn w' g Br Bk B5 B6 A L c AR R cR :=
  ⟨h.k.below hb h.k.lt, Blk.below h.ck hb (Blk.lt h.ck), h.rl.below hb, h.br.below hb h.br.lt, h.rr.below hb, h.b5.below hb h.b5.lt, h.b6.below hb h.b6.lt, h.ll, h.lr⟩
theorem open125 (u : ByteArray) (w : World) (h : ClsIn w g Br Bk B5 B6 A L c AR R cR) : Calls Tryz.prog 147 #[.string u, .pointer (some ⟨Br, 0, none⟩)] w fun e w' => e = .returned (.bool (hasU R u)) ∧ Below w.heap.size w w' := by
  have h1 := h.below (w' := w.alloc (.cells #[.string u] 9)) ((Below.refl _ w).alloc (Nat.le_refl _) _)
  have hbu := Blk.new w 9 #[.string u]
  have hcon := containsCs126 149 #[.pointer (some ⟨w.heap.size, 0, none⟩)] (fun x => seqB x.c.unit u) (enters_of Tryz.func149 (by kernel_rfl) rfl) R AR cR (w.alloc (.cells #[.string u] 9))
    (fun W x hx hW _ => is127 _ u x W (hbu.below hW hbu.lt)) h1.rr (by have := h.lr; omega)
  have hcon : Calls Tryz.prog 148 #[.slice AR R.length cR, .func (.func 149) #[] #[.pointer (some ⟨w.heap.size, 0, none⟩)]] (w.alloc (.cells #[.string u] 9)) fun e w' => e = .returned (.bool (hasU R u)) ∧ Below (w.alloc (.cells #[.string u] 9)).heap.size (w.alloc (.cells #[.string u] 9)) w' := hcon
  have c0 : (w.alloc (.cells #[.string u] 9)).cell? ⟨Br, 0, none⟩ = some (.slice AR R.length cR) := h1.br.cell 0
  have Hcon := Lib.hid hcon
  have hlt := h.br.lt
  generalize hasU R u = q at *
  clear hcon h1 hbu h
  go_enter Tryz.func147, Tryz.ntmps147
  go_wp2_with fail
  refine Hcon.out.mono ?_
  rintro e w1 ⟨rfl, hb1⟩
  have HB := Lib.hid (((Below.refl _ w).alloc (Nat.le_refl _) (.cells #[.string u] 9)).trans (hb1.mono (by simp)))
  clear hb1 Hcon
  go_wp2
  go_ret
  exact ⟨rfl, HB.out⟩
theorem known128 (u : ByteArray) (w : World) (h : ClsIn w g Br Bk B5 B6 A L c AR R cR) : Calls Tryz.prog 150 #[.string u, .pointer (some ⟨Bk, 0, none⟩)] w fun e w' => e = .returned (.bool (hasU L u)) ∧ Below w.heap.size w w' := by
  have h1 := h.below (w' := w.alloc (.cells #[.string u] 9)) ((Below.refl _ w).alloc (Nat.le_refl _) _)
  have hbu := Blk.new w 9 #[.string u]
  have hcon := containsCs126 151 #[.pointer (some ⟨w.heap.size, 0, none⟩)] (fun x => seqB x.c.unit u) (enters_of Tryz.func151 (by kernel_rfl) rfl) L A c (w.alloc (.cells #[.string u] 9))
    (fun W x hx hW _ => is129 _ u x W (hbu.below hW hbu.lt)) h1.rl (by have := h.ll; omega)
  have hcon : Calls Tryz.prog 148 #[.slice A L.length c, .func (.func 151) #[] #[.pointer (some ⟨w.heap.size, 0, none⟩)]] (w.alloc (.cells #[.string u] 9)) fun e w' => e = .returned (.bool (hasU L u)) ∧ Below (w.alloc (.cells #[.string u] 9)).heap.size (w.alloc (.cells #[.string u] 9)) w' := hcon
  have c0 : (w.alloc (.cells #[.string u] 9)).cell? ⟨Bk, 0, none⟩ = some (.pointer (some ⟨g, 0, none⟩)) := h1.k.cell 0
  have c6 : (w.alloc (.cells #[.string u] 9)).cell? ⟨g, 6, none⟩ = some (.slice A L.length c) := h1.ck.cell 6
  have Hcon := Lib.hid hcon
  have hlt := h.k.lt
  generalize hasU L u = q at *
  clear hcon h1 hbu h
  go_enter Tryz.func150, Tryz.ntmps150
  go_wp2_with fail
  refine Hcon.out.mono ?_
  rintro e w1 ⟨rfl, hb1⟩
  have HB := Lib.hid (((Below.refl _ w).alloc (Nat.le_refl _) (.cells #[.string u] 9)).trans (hb1.mono (by simp)))
  clear hb1 Hcon
  go_wp2
  go_ret
  exact ⟨rfl, HB.out⟩
theorem fine133 (u : ByteArray) (w : World) (h : ClsIn w g Br Bk B5 B6 A L c AR R cR) : Calls Tryz.prog 155 #[.string u, .pointer (some ⟨B6, 0, none⟩), .pointer (some ⟨B5, 0, none⟩)] w fun e w' => e = .returned (.bool (hasU L u && !hasU R u)) ∧ Below w.heap.size w w' := by
  have hk := known128 u w h
  have ho := fun W (hW : Below w.heap.size w W) => open125 u W (h.below hW)
  have c6 : w.cell? ⟨B6, 0, none⟩ = some (.func (.func 150) #[] #[.pointer (some ⟨Bk, 0, none⟩)]) := h.b6.cell 0
  have c5 := fun W (hW : Below w.heap.size w W) => (h.below hW).b5.cell 0
  have Hk := Lib.hid hk
  have Ho := Lib.hid ho
  have H5 := Lib.hid c5
  clear hk ho c5 h
  cases hq : hasU L u with
  | false =>
    rw [hq] at Hk
    clear hq
    go_enter Tryz.func155, Tryz.ntmps155
    go_wp2_with fail
    refine Hk.out.mono ?_
    rintro e w1 ⟨rfl, hb1⟩
    go_wp2_with fail
    go_ret
    exact ⟨rfl, hb1⟩
  | true =>
    rw [hq] at Hk
    clear hq
    generalize hasU R u = q at *
    go_enter Tryz.func155, Tryz.ntmps155
    go_wp2_with fail
    refine Hk.out.mono ?_
    rintro e w1 ⟨rfl, hb1⟩
    have d5 : w1.cell? ⟨B5, 0, none⟩ = some (.func (.func 147) #[] #[.pointer (some ⟨Br, 0, none⟩)]) := H5.out w1 hb1
    have hoo := Ho.out w1 hb1
    have Hoo := Lib.hid hoo
    clear hoo H5 Ho Hk
    go_wp2_with fail
    refine Hoo.out.mono ?_
    rintro e w2 ⟨rfl, hb2⟩
    have HB := Lib.hid (hb1.trans (hb2.mono hb1.size))
    clear hb1 hb2
    go_wp2_with fail
    go_ret
    exact ⟨by cases q <;> rfl, HB.out⟩
def fineV (L R : List CsV) (y : CsV) : Bool := y.c.excl.all fun u => hasU L u && !hasU R u
def openV (L R : List CsV) (x y : CsV) : Bool := seqB y.c.unit x.c.unit && !fineV L R y
theorem opens131 (Bx : Nat) (x y : CsV) (w : World) (h : ClsIn w g Br Bk B5 B6 A L c AR R cR) (hx : Blk w Bx 29 #[.string x.c.unit, .slice x.n.a x.n.n x.n.c, .slice x.x.a x.x.n x.x.c]) (hy : y.rd w w.heap.size) (hyl : y.c.excl.length ≤ 1000) :
    Calls Tryz.prog 153 #[y.val, .pointer (some ⟨Bx, 0, none⟩), .pointer (some ⟨B6, 0, none⟩), .pointer (some ⟨B5, 0, none⟩)] w fun e w' => e = .returned (.bool (openV L R x y)) ∧ Below w.heap.size w w' := by
  have hB1 : Below w.heap.size w (w.alloc (.cells #[.string y.c.unit, .slice y.n.a y.n.n y.n.c, .slice y.x.a y.x.n y.x.c] 29)) := (Below.refl _ w).alloc (Nat.le_refl _) _
  have h1 := h.below hB1
  have hal := all_132 155 #[.pointer (some ⟨B6, 0, none⟩), .pointer (some ⟨B5, 0, none⟩)] (fun u => hasU L u && !hasU R u) (enters_of Tryz.func155 (by kernel_rfl) rfl) y.c.excl y.x.a y.x.c _ (fun W u hu hW => fine133 u W (h1.below hW)) (hy.below hB1).x (by omega)
  rw [← hy.xl] at hal
  have c0 : (w.alloc (.cells #[.string y.c.unit, .slice y.n.a y.n.n y.n.c, .slice y.x.a y.x.n y.x.c] 29)).cell? ⟨Bx, 0, none⟩ = some (.string x.c.unit) := (hx.alloc _).cell 0
  have hal : Calls Tryz.prog 154 #[.slice y.x.a y.x.n y.x.c, .func (.func 155) #[] #[.pointer (some ⟨B6, 0, none⟩), .pointer (some ⟨B5, 0, none⟩)]] (w.alloc (.cells #[.string y.c.unit, .slice y.n.a y.n.n y.n.c, .slice y.x.a y.x.n y.x.c] 29)) fun e w' => e = .returned (.bool (fineV L R y)) ∧ Below (w.alloc (.cells #[.string y.c.unit, .slice y.n.a y.n.n y.n.c, .slice y.x.a y.x.n y.x.c] 29)).heap.size (w.alloc (.cells #[.string y.c.unit, .slice y.n.a y.n.n y.n.c, .slice y.x.a y.x.n y.x.c] 29)) w' := hal
  have Hal := Lib.hid hal
  have hlt := hx.lt
  have HB1 := Lib.hid hB1
  unfold openV
  generalize fineV L R y = q at *
  clear hal h1 hB1 h hx hy
  dsimp only [CsV.val]
  cases hs : seqB y.c.unit x.c.unit with
  | false =>
    have hs' : (y.c.unit.toList == x.c.unit.toList) = false := hs
    clear hs
    go_enter Tryz.func153, Tryz.ntmps153
    go_wp2_with fail
    go_ret
    exact ⟨rfl, HB1.out⟩
  | true =>
    have hs' : (y.c.unit.toList == x.c.unit.toList) = true := hs
    clear hs
    go_enter Tryz.func153, Tryz.ntmps153
    go_wp2_with fail
    refine Hal.out.mono ?_
    rintro e w1 ⟨rfl, hb1⟩
    have HB := Lib.hid (HB1.out.trans (hb1.mono (by simp)))
    clear hb1 Hal
    go_wp2_with fail
    go_ret
    exact ⟨by cases q <;> rfl, HB.out⟩
def staysV (L R : List CsV) (x : CsV) : Bool := R.any fun y => openV L R x y
theorem stays130 (x : CsV) (w : World) (h : ClsIn w g Br Bk B5 B6 A L c AR R cR) (hl : ∀ y ∈ R, y.c.excl.length ≤ 1000) :
    Calls Tryz.prog 152 #[x.val, .pointer (some ⟨Br, 0, none⟩), .pointer (some ⟨B6, 0, none⟩), .pointer (some ⟨B5, 0, none⟩)] w fun e w' => e = .returned (.bool (staysV L R x)) ∧ Below w.heap.size w w' := by
  have hB1 : Below w.heap.size w (w.alloc (.cells #[.string x.c.unit, .slice x.n.a x.n.n x.n.c, .slice x.x.a x.x.n x.x.c] 29)) := (Below.refl _ w).alloc (Nat.le_refl _) _
  have h1 := h.below hB1
  have hbx := Blk.new w 29 #[.string x.c.unit, .slice x.n.a x.n.n x.n.c, .slice x.x.a x.x.n x.x.c]
  have hcon := containsCs126 153 #[.pointer (some ⟨w.heap.size, 0, none⟩), .pointer (some ⟨B6, 0, none⟩), .pointer (some ⟨B5, 0, none⟩)] (fun y => openV L R x y) (enters_of Tryz.func153 (by kernel_rfl) rfl) R AR cR _
    (fun W y hy hW hrd => opens131 w.heap.size x y W (h1.below hW) (hbx.below hW hbx.lt) hrd (hl y hy)) h1.rr (by have := h.lr; omega)
  have hcon : Calls Tryz.prog 148 #[.slice AR R.length cR, .func (.func 153) #[] #[.pointer (some ⟨w.heap.size, 0, none⟩), .pointer (some ⟨B6, 0, none⟩), .pointer (some ⟨B5, 0, none⟩)]] (w.alloc (.cells #[.string x.c.unit, .slice x.n.a x.n.n x.n.c, .slice x.x.a x.x.n x.x.c] 29)) fun e w' => e = .returned (.bool (staysV L R x)) ∧ Below (w.alloc (.cells #[.string x.c.unit, .slice x.n.a x.n.n x.n.c, .slice x.x.a x.x.n x.x.c] 29)).heap.size (w.alloc (.cells #[.string x.c.unit, .slice x.n.a x.n.n x.n.c, .slice x.x.a x.x.n x.x.c] 29)) w' := hcon
  have c0 : (w.alloc (.cells #[.string x.c.unit, .slice x.n.a x.n.n x.n.c, .slice x.x.a x.x.n x.x.c] 29)).cell? ⟨Br, 0, none⟩ = some (.slice AR R.length cR) := h1.br.cell 0
  have Hcon := Lib.hid hcon
  have hlt := h.br.lt
  have HB1 := Lib.hid hB1
  generalize staysV L R x = q at *
  clear hcon h1 hbx hB1 h hl
  dsimp only [CsV.val]
  go_enter Tryz.func152, Tryz.ntmps152
  go_wp2_with fail
  refine Hcon.out.mono ?_
  rintro e w1 ⟨rfl, hb1⟩
  have HB := Lib.hid (HB1.out.trans (hb1.mono (by simp)))
  clear hb1 Hcon
  go_wp2
  go_ret
  exact ⟨rfl, HB.out⟩
end
end Go.Proofs.YtknojjlfgjkbiaaGreatDoor
/- The checker's rule on causes: the walk. -/
namespace Go.Proofs.YtknojjlfgjkbiaaGreatDoor
open Go.ChangeShapes Go.WideShapes Go.ChangeAt Go.RowKit
attribute [local go_sem] Oper.semAt_some

/-- the rounds of the rule: what stays, till nothing changes. -/
def runC (L : List CsV) : Nat → Int → List CsV → Bool
  | 0, _, _ => false
  | f + 1, n, R => if n = R.length then decide (R.length = 0) else runC L f R.length (R.filter (staysV L R))
theorem runC_end {L R : List CsV} {f : Nat} {n : Int} (h : runC L f n R = true) (hn : n = R.length) : R.length = 0 := by
  cases f with
  | zero => cases h
  | succ f => simpa [runC, hn] using h
theorem runC_next {L R : List CsV} {f : Nat} {n : Int} (h : runC L f n R = true) (hn : ¬ n = R.length) : ∃ f', f = f' + 1 ∧ runC L f' R.length (R.filter (staysV L R)) = true := by
  cases f with
  | zero => cases h
  | succ f =>
    rw [runC, if_neg hn] at h
    exact ⟨f, rfl, h⟩
theorem rdCs_own {W : World} {base c : Nat} {A : Option Addr} {L : List CsV} (h : W.ownsRow base 29 3 (.slice A L.length c) L.length (L.flatMap CsV.cells)) (hx : ∀ x ∈ L, x.rd W W.heap.size) : RdCs W W.heap.size A L := fun hn => by
  obtain ⟨g, cap, hv, _, hlt⟩ := h.form hn
  have hA : A = some ⟨g, 0, none⟩ := by injection hv
  subst hA
  refine ⟨g, 0, rfl, hlt, fun i hi => ?_⟩
  obtain ⟨q0, q1, q2⟩ := cellsC_get L i hi
  have c0 := h.cells (g := g) rfl _ _ q0
  have c1 := h.cells (g := g) rfl _ _ q1
  have c2 := h.cells (g := g) rfl _ _ q2
  rw [add_none] at c0 c1 c2
  exact ⟨by simpa using c0, by simpa using c1, by simpa using c2, hx _ (List.getElem_mem hi)⟩
theorem filt_yes {p : CsV → Bool} {R : List CsV} {k : Nat} (hk : k < R.length) (h : p R[k] = true) : (R.take (k + 1)).filter p = (R.take k).filter p ++ [R[k]] := by
  rw [List.take_succ_eq_append_getElem hk, List.filter_append]; simp [h]
theorem filt_no {p : CsV → Bool} {R : List CsV} {k : Nat} (hk : k < R.length) (h : p R[k] = false) : (R.take (k + 1)).filter p = (R.take k).filter p := by
  rw [List.take_succ_eq_append_getElem hk, List.filter_append]; simp [h]
theorem filt_len {p : CsV → Bool} {R : List CsV} {k : Nat} : ((R.take k).filter p).length ≤ R.length := Nat.le_trans (List.length_filter_le _ _) (by simp; omega)
def mesC (a : Value) (b : Option Value) : Nat := match b with
  | some (.slice _ n _) => 2 * n + (match a with | .int _ i => if i = n then 0 else 1 | _ => 0)
  | _ => 0
theorem mesC_eq (k : IntKind) (i : Int) (A : Option Addr) (n c : Nat) : mesC (.int k i) (some (.slice A n c)) = 2 * n + if i = n then 0 else 1 := rfl
/-- what lies in memory between the rounds. -/
structure CauR (w : World) (g : Nat) (A : Option Addr) (L : List CsV) (c : Nat) (AR : Option Addr) (R : List CsV) (cR : Nat) (W : World) : Prop where
  below : Below w.heap.size w W
  k : Blk W w.heap.size 126 #[.pointer (some ⟨g, 0, none⟩)]
  br : Blk W (w.heap.size + 1) 22 #[.slice AR R.length cR]
  rr : RdCs W W.heap.size AR R
  sub : ∀ x ∈ R, x ∈ L
  lr : R.length ≤ L.length
set_option maxRecDepth 100000 in
set_option maxHeartbeats 2000000 in
theorem causes_c (g : Nat) (A : Option Addr) (L : List CsV) (c : Nat) (F : Nat) (w : World) (h : CkB w g A L.length c) (hr : RdCs w w.heap.size A L) (hl : L.length ≤ 1000) (hx : ∀ x ∈ L, x.c.excl.length ≤ 1000) (hrd : ∀ x ∈ L, x.rd w w.heap.size) (hrun : runC L F (-1) L = true) :
    Calls Tryz.prog 81 #[.pointer (some ⟨g, 0, none⟩)] w fun e w' => e = .returned (.bool true) ∧ Below w.heap.size w w' := by
  obtain ⟨w1, hw1⟩ : ∃ w1, w1 = (w.alloc (.cells #[.pointer (some ⟨g, 0, none⟩)] 126)).alloc (.cells #[.slice A L.length c] 22) := ⟨_, rfl⟩
  have hB1 : Below w.heap.size w w1 := by rw [hw1]; exact ((Below.refl _ w).alloc (Nat.le_refl _) _).alloc (by simp) _
  have hk1 : Blk w1 w.heap.size 126 #[.pointer (some ⟨g, 0, none⟩)] := by rw [hw1]; exact (Blk.new w _ _).alloc _
  have hb1 : Blk w1 (w.heap.size + 1) 22 #[.slice A L.length c] := by
    rw [hw1]
    have := Blk.new (w.alloc (.cells #[.pointer (some ⟨g, 0, none⟩)] 126)) 22 #[.slice A L.length c]
    rwa [World.size_alloc] at this
  have hst : CauR w g A L c A L c w1 := ⟨hB1, hk1, hb1, hr.below hB1, fun x h => h, Nat.le_refl _⟩
  have c6 : (w.alloc (.cells #[.pointer (some ⟨g, 0, none⟩)] 126)).cell? ⟨g, 6, none⟩ = some (.slice A L.length c) := (Blk.alloc h _).cell 6
  have hlt : g < w.heap.size := Blk.lt h
  have Hw1 := Lib.hid hw1
  have Hst := Lib.hid hst
  have H := Lib.hid h
  have Hr := Lib.hid hr
  have Hx := Lib.hid hx
  have Hrd := Lib.hid hrd
  have Hrun := Lib.hid hrun
  clear hw1 hB1 hk1 hb1 hst h hr hx hrd hrun
  go_enter Tryz.func81, Tryz.ntmps81
  go_wp2_with fail
  rw [← Hw1.out]
  go_loopw [4] (fun t wr => ∃ (f : Nat) (n : Int) (R : List CsV) (AR : Option Addr) (cR : Nat), t = .int .i64 n ∧ Hid (runC L f n R = true) ∧ CauR w g A L c AR R cR wr ∧ f ≤ F) (fun t wr => mesC t (wr.cell? ⟨w.heap.size + 1, 0, none⟩))
  case atStart => exact ⟨F, -1, L, A, c, rfl, Hrun, Hst.out, Nat.le_refl _⟩
  case round =>
    clear Hst Hrun c6
    obtain ⟨f, n, R, AR, cR, rfl, hrun, hS, hf⟩ := hrel
    generalize wr = w4 at *
    have hm0 : w4.cell? ⟨w.heap.size + 1, 0, none⟩ = some (.slice AR R.length cR) := hS.br.cell 0
    have hm0' := hm0
    have Hm0 := Lib.hid hm0'
    clear hm0'
    by_cases hn : n = R.length
    · have h0 := runC_end hrun.out hn
      have hd : ((R.length : Int) == 0) = true := by rw [h0]; rfl
      have hne : (n != (R.length : Int)) = false := by rw [hn]; simp
      have hbl := hS.below
      clear hrun hS h0 hn
      go_wp2_with fail
      go_ret
      exact ⟨rfl, hbl⟩
    · obtain ⟨f', rfl, hnx⟩ := runC_next hrun.out hn
      have hne : (n != (R.length : Int)) = true := by simpa using hn
      obtain ⟨w5, hw5⟩ : ∃ w5, w5 = (w4.alloc (.cells #[.func (.func 147) #[] #[.pointer (some ⟨w.heap.size + 1, 0, none⟩)]] 114)).alloc (.cells #[.func (.func 150) #[] #[.pointer (some ⟨w.heap.size, 0, none⟩)]] 114) := ⟨_, rfl⟩
      have hB5 : Below w4.heap.size w4 w5 := by rw [hw5]; exact ((Below.refl _ w4).alloc (Nat.le_refl _) _).alloc (by simp) _
      have hb5 : Blk w5 w4.heap.size 114 #[.func (.func 147) #[] #[.pointer (some ⟨w.heap.size + 1, 0, none⟩)]] := by rw [hw5]; exact (Blk.new w4 _ _).alloc _
      have hb6 : Blk w5 (w4.heap.size + 1) 114 #[.func (.func 150) #[] #[.pointer (some ⟨w.heap.size, 0, none⟩)]] := by
        rw [hw5]
        have := Blk.new (w4.alloc (.cells #[.func (.func 147) #[] #[.pointer (some ⟨w.heap.size + 1, 0, none⟩)]] 114)) 114 #[.func (.func 150) #[] #[.pointer (some ⟨w.heap.size, 0, none⟩)]]
        rwa [World.size_alloc] at this
      have hbw5 : Below w.heap.size w w5 := hS.below.trans (hB5.mono hS.below.size)
      have hcl : ClsIn w5 g (w.heap.size + 1) w.heap.size w4.heap.size (w4.heap.size + 1) A L c AR R cR :=
        ⟨hS.k.below hB5 hS.k.lt, Blk.below H.out hbw5 (Blk.lt H.out), Hr.out.below hbw5, hS.br.below hB5 hS.br.lt, hS.rr.below hB5, hb5, hb6, hl, by have := hS.lr; omega⟩
      have hwz : w.heap.size + 1 < w4.heap.size := hS.br.lt
      have hlr := hS.lr
      have Hcl := Lib.hid hcl
      have Hbw5 := Lib.hid hbw5
      have Hw5 := Lib.hid hw5
      have Hnx := Lib.hid hnx
      have Hsub := Lib.hid hS.sub
      have hz5 : w5.heap.size = w4.heap.size + 2 := by rw [hw5]; simp
      have m5 : w5.cell? ⟨w.heap.size + 1, 0, none⟩ = some (.slice AR R.length cR) := hcl.br.cell 0
      have hz5' := hz5
      have Hz5 := Lib.hid hz5'
      have hmm : ((w4.alloc (.cells #[.func (.func 147) #[] #[.pointer (some ⟨w.heap.size + 1, 0, none⟩)]] 114)).alloc (.cells #[.func (.func 150) #[] #[.pointer (some ⟨w.heap.size, 0, none⟩)]] 114)).cell? ⟨w.heap.size + 1, 0, none⟩ = some (.slice AR R.length cR) := by rw [← hw5]; exact m5
      clear hnx hcl hbw5 hw5 hb5 hb6 hB5 hS hrun hz5' hz5
      go_wp2_with fail
      rw [← Hw5.out]
      go_loopw [8, 27] (fun v t W => ∃ k : Nat, k ≤ R.length ∧ t = .int .i64 k ∧ Below w5.heap.size w5 W ∧ W.ownsRow w5.heap.size 29 3 v ((R.take k).filter (staysV L R)).length (((R.take k).filter (staysV L R)).flatMap CsV.cells)) (fun _ t W => R.length - (intOf t).toNat)
      case atStart => exact ⟨0, Nat.zero_le _, rfl, Below.refl _ _, World.ownsRow_nil _ _ _ _⟩
      case round =>
        obtain ⟨k, hk, rfl, hB, hown⟩ := hrel
        generalize wr = W at *
        obtain ⟨Av, cv, rfl, _⟩ := own_caps hown
        have hwz5 : w.heap.size + 1 < w5.heap.size := by have := Hz5.out; omega
        have hsW := hB.size
        by_cases hlt2 : k < R.length
        · obtain ⟨b, o, rfl, hb, hc⟩ := (Hcl.out.rr.keep hB) (by omega)
          obtain ⟨d0, d1, d2, _⟩ := hc k hlt2
          have hyes := fun h => filt_yes (p := staysV L R) hlt2 h
          have hno := fun h => filt_no (p := staysV L R) hlt2 h
          have hN := filt_len (p := staysV L R) (R := R) (k := k)
          have hbs : b < W.heap.size := World.block_lt_of_cell? W _ d0
          have hcalls := fun x => stays130 x (W.alloc (.cells #[.string R[k].c.unit, .slice R[k].n.a R[k].n.n R[k].n.c, .slice R[k].x.a R[k].x.n R[k].x.c] 29)) ((Hcl.out.below hB).below ((Below.refl _ _).alloc (Nat.le_refl _) _)) (fun y hy => Hx.out y (Hsub.out y hy))
          have hcall := hcalls R[k]
          have Hyes := Lib.hid hyes
          have Hno := Lib.hid hno
          have Hown := Lib.hid hown
          have HB := Lib.hid hB
          clear hc hyes hno hown hB hcalls m5 hmm hm0
          obtain ⟨i0, hi0, hz0, hz1, hz2⟩ := info_parts info33
          generalize (R.take k).filter (staysV L R) = N at *
          generalize hR : R[k] = x at *
          clear hR
          cases hq : staysV L R x with
          | true =>
            rw [hq] at hcall
            have Hn := Lib.hid (Hyes.out hq)
            have Hcall := Lib.hid hcall
            clear hcall hq Hyes Hno
            go_wp2_with fail
            refine Hcall.out.mono ?_
            rintro e W2 ⟨rfl, hb2⟩
            have hbW : Below W.heap.size W W2 := ((Below.refl _ W).alloc (Nat.le_refl _) (.cells #[.string x.c.unit, .slice x.n.a x.n.n x.n.c, .slice x.x.a x.x.n x.x.c] 29)).trans (hb2.mono (by simp))
            have hx2 := (Blk.new W 29 #[.string x.c.unit, .slice x.n.a x.n.n x.n.c, .slice x.x.a x.x.n x.x.c]).below hb2 (by simp)
            have e0 : W2.cell? ⟨W.heap.size, 0, none⟩ = some (.string x.c.unit) := hx2.cell 0
            have e1 : W2.cell? ⟨W.heap.size, 1, none⟩ = some (.slice x.n.a x.n.n x.n.c) := hx2.cell 1
            have e2 : W2.cell? ⟨W.heap.size, 2, none⟩ = some (.slice x.x.a x.x.n x.x.c) := hx2.cell 2
            have Hown2 := Lib.hid (own_keep Hown.out (below_grown (row := none) hbW) (fun r e => by cases e))
            have HB2 := Lib.hid (HB.out.trans (hbW.mono HB.out.size))
            clear hb2 hbW hx2 Hcall
            go_wp2_with (at_builtin; refine wpList_append_own _ rfl (.tmp 34) (.tmp 36) 22 rfl w5.heap.size 29 i0 (.agg #[.string ⟨#[]⟩, .slice none 0 0, .slice none 0 0]) 3 64 Tryz.underlying22 hi0 hz0 hz1 hz2 rfl (by decide) _ _ _ rfl (Hown2.out.alloc _) ⟨W2.heap.size, 0, none⟩ 1 1 [.string x.c.unit, .slice x.n.a x.n.n x.n.c, .slice x.x.a x.x.n x.x.c] rfl rfl ?c1 ?c2 ?c3 ?c4 ?c5 ?_)
            case c1 =>
              intro j u' hj
              rw [addr_add_none, Nat.zero_add, (Blk.new W2 29 #[.string x.c.unit, .slice x.n.a x.n.n x.n.c, .slice x.x.a x.x.n x.x.c]).cell j]
              simpa using hj
            case c2 => intro u' hu'; simp at hu'; rcases hu' with rfl | rfl | rfl <;> rfl
            case c3 => unfold maxLen; omega
            case c4 => omega
            case c5 => have := HB2.out.size; simp; omega
            intro v5 W5 hown5 hg5 _
            have hb5 := (HB2.out.alloc HB2.out.size (.cells #[.string x.c.unit, .slice x.n.a x.n.n x.n.c, .slice x.x.a x.x.n x.x.c] 29)).grown hg5 (by have := HB2.out.size; simp; omega) (fun g hg => ((Hown2.out.alloc (.cells #[.string x.c.unit, .slice x.n.a x.n.n x.n.c, .slice x.x.a x.x.n x.x.c] 29)).lt g hg).1)
            have HR := Lib.hid (And.intro hb5 hown5)
            clear hown5 hg5 hb5
            go_wp2_with fail
            go_roundw
            case rel => exact ⟨k + 1, by omega, by go_num, HR.out.1, by rw [Hn.out]; simpa [CsV.cells] using HR.out.2⟩
            case measure => simp [intOf]; omega
          | false =>
            rw [hq] at hcall
            have Hn := Lib.hid (Hno.out hq)
            have Hcall := Lib.hid hcall
            clear hcall hq Hyes Hno
            go_wp2_with fail
            refine Hcall.out.mono ?_
            rintro e W2 ⟨rfl, hb2⟩
            have hbW : Below W.heap.size W W2 := ((Below.refl _ W).alloc (Nat.le_refl _) (.cells #[.string x.c.unit, .slice x.n.a x.n.n x.n.c, .slice x.x.a x.x.n x.x.c] 29)).trans (hb2.mono (by simp))
            have Hown2 := Lib.hid (own_keep Hown.out (below_grown (row := none) hbW) (fun r e => by cases e))
            have HB2 := Lib.hid (HB.out.trans (hbW.mono HB.out.size))
            clear hb2 hbW Hcall
            go_wp2_with fail
            go_roundw
            case rel => exact ⟨k + 1, by omega, by go_num, HB2.out, by rw [Hn.out]; exact Hown2.out⟩
            case measure => simp [intOf]; omega
        · obtain rfl : k = R.length := by omega
          rw [List.take_length] at hown
          have hkW := Hcl.out.k.below hB (by omega)
          have hbrW := Hcl.out.br.below hB (by omega)
          have brc : W.cell? ⟨w.heap.size + 1, 0, none⟩ = some (.slice AR R.length cR) := hbrW.cell 0
          have brf : W.frozen? ⟨w.heap.size + 1, 0, none⟩ = false := hbrW.frozen 0
          have hNl : (R.filter (staysV L R)).length ≤ R.length := List.length_filter_le _ _
          have hsubN : ∀ x ∈ R.filter (staysV L R), x ∈ L := fun x hx => Hsub.out x (List.mem_filter.1 hx).1
          rw [show (List.filter (staysV L R) (List.take R.length R)).length = (R.filter (staysV L R)).length by rw [List.take_length]] at *
          have Hnx2 := Lib.hid Hnx.out
          have HsubN := Lib.hid hsubN
          have Hown := Lib.hid hown
          have HB := Lib.hid hB
          have HkW := Lib.hid hkW
          have HbrW := Lib.hid hbrW
          clear hown hB hkW hbrW hsubN m5 hmm hm0
          generalize R.filter (staysV L R) = N at *
          have hG := Gr.setCell (X := (· = w.heap.size + 1)) W ⟨w.heap.size + 1, 0, none⟩ (.slice Av N.length cv) rfl
          have hS2 : Below w.heap.size w (W.setCell ⟨w.heap.size + 1, 0, none⟩ (.slice Av N.length cv)) := (Hbw5.out.trans (HB.out.mono Hbw5.out.size)).setCell (by simp) _
          have hown2 := own_gr Hown.out hG (fun j hj e => by have := (Hown.out.lt j hj).1; omega)
          have hrr := rdCs_own hown2 (fun x hx => (Hrd.out x (HsubN.out x hx)).below hS2)
          have hst : CauR w g A L c Av N cv (W.setCell ⟨w.heap.size + 1, 0, none⟩ (.slice Av N.length cv)) :=
            ⟨hS2, HkW.out.far (by simp) _, by simpa using HbrW.out.set_ 0 (.slice Av N.length cv), hrr, HsubN.out, by omega⟩
          have hm1 := hst.br.cell 0
          have Hst := Lib.hid hst
          have Hm1 := Lib.hid hm1
          clear hG hS2 hown2 hrr hst hm1
          go_wp2_with fail
          go_roundw
          case rel => exact ⟨f', R.length, N, Av, cv, rfl, Hnx2, Hst.out, by omega⟩
          case measure =>
            rw [Hm1.out, Hm0.out, show (#[Value.slice Av N.length cv] : Array Value)[0]? = some (.slice Av N.length cv) from rfl, mesC_eq, mesC_eq, if_neg hn]
            split <;> omega
end Go.Proofs.YtknojjlfgjkbiaaGreatDoor
