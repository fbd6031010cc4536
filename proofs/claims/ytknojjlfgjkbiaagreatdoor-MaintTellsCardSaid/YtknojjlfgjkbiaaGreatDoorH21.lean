/- Texts K16 K5 H1, joined. -/
import Derived.Test.YtknojjlfgjkbiaaGreatDoorH20
import Derived.Test.YtknojjlfgjkbiaaGreatDoorH03
import Derived.Test.YtknojjlfgjkbiaaGreatDoorH19
set_option linter.unusedSimpArgs false
set_option linter.unusedVariables false
set_option linter.unusedSectionVars false
/- lex: the iterator over the tokens, on a word of one letter. -/
namespace Go.Proofs.YtknojjlfgjkbiaaGreatDoor
open Go.ChangeShapes Go.WideShapes Go.ChangeAt Go.RowKit
attribute [local go_sem] Oper.semAt_some

/-- a letter that no other test accepts. -/
structure LetB (s : ByteArray) (b : Int) : Prop where
  size : s.size = 1
  at_ : bAt s 0 = b
  ex : s.extract 0 1 = s
  lo : decide (b ≥ 97) = true
  hi : decide (b ≤ 122) = true
  ws : decide (firstIdx ⟨#[32, 9, 10, 13]⟩ b.toNat.toUInt8 ≥ 0) = false
  ha : decide (firstIdx ⟨#[35]⟩ b.toNat.toUInt8 ≥ 0) = false
theorem nowSc {w : World} {g : Nat} {s : ByteArray} {k : Nat} {v0 v1 v2 v3 : Value} (h : ScB w g s k v0 v1 v2 v3) : nowOf g w = k := by
  have : w.cell? ⟨g, 1, none⟩ = some (.int .i64 k) := Blk.cell h 1
  unfold nowOf
  rw [this]; simp
theorem quiet_below {w w' : World} (h : ∃ m, w' = w.drewN m) : Below w.heap.size w w' := by
  obtain ⟨m, rfl⟩ := h; exact only_below (Below.refl _ _)
theorem skip_at {g : Nat} {s : ByteArray} {b : Int} {v0 v1 v2 v3 : Value} (w : World) (hl : LetB s b) (h : ScB w g s 0 v0 v1 v2 v3) : Calls Tryz.prog 348 #[.pointer (some ⟨g, 0, none⟩)] w fun e w' => (∃ v, e = .returned v) ∧ Below w.heap.size w w' :=
  skip_c g w
    (fun W Bs hW hb => (more_at 360 #[.pointer (some ⟨Bs, 0, none⟩)] b false W (ScB.below h hW) (by rw [hl.size]; omega) hl.at_ (enters_of Tryz.func360 (by kernel_rfl) rfl) (among_at hb hl.ha)).mono fun e w' h => ⟨h.1, quiet_below h.2⟩)
    (fun W Bs hW hb => while_at 360 #[.pointer (some ⟨Bs, 0, none⟩)] b W (ScB.below h hW) (by rw [hl.size]; omega) hl.at_ (enters_of Tryz.func360 (by kernel_rfl) rfl) (among_at hb hl.ws))
theorem skip_end {g : Nat} {s : ByteArray} {k : Nat} {v0 v1 v2 v3 : Value} (w : World) (hk : s.size ≤ k) (h : ScB w g s k v0 v1 v2 v3) : Calls Tryz.prog 348 #[.pointer (some ⟨g, 0, none⟩)] w fun e w' => (∃ v, e = .returned v) ∧ Below w.heap.size w w' :=
  skip_c g w
    (fun W Bs hW hb => (more_end _ W (ScB.below h hW) hk).mono fun e w' h => ⟨h.1, quiet_below h.2⟩)
    (fun W Bs hW hb => while_end _ W (ScB.below h hW) hk)
set_option maxRecDepth 100000 in
set_option maxHeartbeats 2000000 in
theorem iter_c (g Bb Be : Nat) (s : ByteArray) (b : Int) (f2 f3 : Fn) (lb2 lb3 : Array Value) (w : World) (hl : LetB s b) (ht : TestAt w 358 #[.pointer (some ⟨Be, 0, none⟩)] b true)
    (h : ScB w g s 0 .nilFunc (.func (.func 358) #[] #[.pointer (some ⟨Be, 0, none⟩)]) (.func f2 #[] lb2) (.func f3 #[] lb3)) (hb : Blk w Bb 339 #[.pointer (some ⟨g, 0, none⟩)])
    (go : Nat) (hgo1 : g ≠ go) (hgo2 : Bb ≠ go) (l : Nat) (W : World) (J : World → Prop) (hW : Below w.heap.size w W)
    (hY : ∀ W', Gr (· = g) W W' → YieldAt Fence.wide 7 Tryz.prog l #[.agg #[.int .u8 1, .string s, .int .i64 0], .int .i64 0] W' fun e W2 => e = .returned (.bool true) ∧ W'.heap.size ≤ W2.heap.size ∧ (∀ k, k < w.heap.size → k ≠ go → W2.heap[k]? = W'.heap[k]?) ∧ J W2) :
    CallsIn Fence.wide 8 Tryz.prog 347 (#[.func (.yield l) #[] #[]] ++ #[.pointer (some ⟨Bb, 0, none⟩)]) W fun e W' => (∃ v, e = .returned v) ∧ ∃ W2, J W2 ∧ Gr (· = g) W2 W' := by
  have hSW := Blk.below h hW (Blk.lt h)
  have hSW : ScB W g s 0 .nilFunc (.func (.func 358) #[] #[.pointer (some ⟨Be, 0, none⟩)]) (.func f2 #[] lb2) (.func f3 #[] lb3) := hSW
  have hbW := hb.below hW hb.lt
  have c0 : W.cell? ⟨Bb, 0, none⟩ = some (.pointer (some ⟨g, 0, none⟩)) := hbW.cell 0
  have hgl := Blk.lt h
  have hbl := hb.lt
  have hne : Bb ≠ g := hb.ne_ h (by decide)
  have hsk := skip_at W hl hSW
  have HSW := Lib.hid hSW
  have HbW := Lib.hid hbW
  have HtW := Lib.hid (ht.next hW)
  have HY := Lib.hid hY
  have Hl := Lib.hid hl
  have Hsk := Lib.hid hsk
  have hws := hW.size
  clear hSW hbW ht hY hsk h hb hl hW
  refine callsIn_of_wp Tryz.func347 rfl trivial ?_ rfl
  simp only [Tryz.ntmps347, List.size_toArray, List.length_cons, List.length_nil, Nat.reduceAdd, Nat.reduceSub, Array.replicate_succ, Array.replicate_zero, List.push_toArray, List.append_toArray, List.nil_append, List.cons_append]
  gi_wp2
  refine wide_call Hsk.out ?_
  rintro e W1 ⟨⟨v, rfl⟩, hb1⟩
  have hS1 := ScB.below HSW.out hb1
  have hB1 := HbW.out.below hb1 HbW.out.lt
  have HS1 := Lib.hid hS1
  have HB1 := Lib.hid hB1
  have Hb1 := Lib.hid hb1
  have hn1 := nowSc hS1
  have Hn1 := Lib.hid hn1
  have hs1 := hb1.size
  clear c0 hb1 hS1 hB1 hn1 Hsk
  gi_wp2
  gi_loopw [] (fun wr => wr = W1 ∨ ∃ W2, J W2 ∧ Gr (· = g) W2 wr ∧ ScB wr g s 1 .nilFunc (.func (.func 358) #[] #[.pointer (some ⟨Be, 0, none⟩)]) (.func f2 #[] lb2) (.func f3 #[] lb3) ∧ Blk wr Bb 339 #[.pointer (some ⟨g, 0, none⟩)]) (fun wr => 1 - nowOf g wr)
  case atStart => exact .inl rfl
  case round =>
    rcases hrel with rfl | ⟨W2, hJ, hG, hS2, hb2⟩
    · have q0 : wr.cell? ⟨Bb, 0, none⟩ = some (.pointer (some ⟨g, 0, none⟩)) := HB1.out.cell 0
      have q1 : wr.cell? ⟨g, 1, none⟩ = some (.int .i64 0) := Blk.cell HS1.out 1
      have q2 : wr.cell? ⟨g, 0, none⟩ = some (.string s) := Blk.cell HS1.out 0
      have hd : (0 : Int) < (s.size : Int) := by rw [Hl.out.size]; decide
      have hnx := fun n => next_c g Be s b f2 f3 lb2 lb3 (wr.drewN n) Hl.out.size Hl.out.at_ (HtW.out.next (Hb1.out.trans (only_below (Below.refl _ _)))) (ScB.below HS1.out (only_below (Below.refl _ _))) Hl.out.ex
      have Hnx := Lib.hid hnx
      clear hnx
      gi_wp2
      refine wpIn_wide.2 ?_
      go_quiet (fail)
      gi_wp2
      refine wide_call (Hnx.out _) ?_
      rintro e W3 ⟨rfl, hS3, hG3⟩
      have hGw : Gr (· = g) W (W3.alloc (.cells #[.int .u8 1, .string s, .int .i64 0] 318)) := (((Gr.of_below Hb1.out).trans (Gr.of_below (only_below (Below.refl wr.heap.size wr)))).trans hG3).trans (Gr.alloc _ _ _)
      have hS4 : ScB (W3.alloc (.cells #[.int .u8 1, .string s, .int .i64 0] 318)) g s 1 .nilFunc (.func (.func 358) #[] #[.pointer (some ⟨Be, 0, none⟩)]) (.func f2 #[] lb2) (.func f3 #[] lb3) := Blk.alloc hS3 _
      have hb4 : Blk (W3.alloc (.cells #[.int .u8 1, .string s, .int .i64 0] 318)) Bb 339 #[.pointer (some ⟨g, 0, none⟩)] := hGw.blk HbW.out (fun e => hne e)
      obtain ⟨fn, tmps, assign, body, hy, hR⟩ := HY.out _ hGw
      have HS4 := Lib.hid hS4
      have Hb4 := Lib.hid hb4
      clear hGw hS3 hG3 hS4 hb4 q0 q1 q2 Hnx
      gi_wp2
      refine hR.mono ?_
      rintro e' W5 ⟨rfl, hz5, hsame, hJ5⟩
      have hS5 : ScB W5 g s 1 .nilFunc (.func (.func 358) #[] #[.pointer (some ⟨Be, 0, none⟩)]) (.func f2 #[] lb2) (.func f3 #[] lb3) := (hsame g hgl hgo1).trans HS4.out
      have hb5 : Blk W5 Bb 339 #[.pointer (some ⟨g, 0, none⟩)] := (hsame Bb hbl hgo2).trans Hb4.out
      have p0 : W5.cell? ⟨Bb, 0, none⟩ = some (.pointer (some ⟨g, 0, none⟩)) := hb5.cell 0
      have hsk := skip_end W5 (by rw [Hl.out.size]; exact Nat.le_refl 1) hS5
      have Hsk := Lib.hid hsk
      have HS5 := Lib.hid hS5
      have Hb5 := Lib.hid hb5
      have HJ5 := Lib.hid hJ5
      clear hsk hS5 hb5 hJ5 hsame hz5 hy hR
      gi_wp2
      refine wide_call Hsk.out ?_
      rintro e W6 ⟨⟨v6, rfl⟩, hb6⟩
      have hS6 := ScB.below HS5.out hb6
      have hb6' := Hb5.out.below hb6 Hb5.out.lt
      have hn6 := nowSc hS6
      have hn1 := Hn1.out
      have HF := Lib.hid (And.intro HJ5.out (And.intro (Gr.of_below (X := (· = g)) hb6) (And.intro hS6 hb6')))
      clear hS6 hb6' hb6 p0
      gi_wp2
      go_roundw
      case rel => exact .inr ⟨W5, HF.out.1, HF.out.2.1, HF.out.2.2.1, HF.out.2.2.2⟩
      case measure => rw [hn6, hn1]; omega
    · have q0 : wr.cell? ⟨Bb, 0, none⟩ = some (.pointer (some ⟨g, 0, none⟩)) := hb2.cell 0
      have q1 : wr.cell? ⟨g, 1, none⟩ = some (.int .i64 1) := Blk.cell hS2 1
      have q2 : wr.cell? ⟨g, 0, none⟩ = some (.string s) := Blk.cell hS2 0
      have hd : ¬ (1 : Int) < (s.size : Int) := by rw [Hl.out.size]; decide
      have HF := Lib.hid (And.intro hJ hG)
      clear hJ hG hS2 hb2
      gi_wp2
      refine wpIn_wide.2 ?_
      go_quiet (fail)
      gi_wp2
      go_end0
      exact ⟨⟨_, rfl⟩, W2, HF.out.1, HF.out.2.trans (Gr.of_below (only_below (Below.refl _ _)))⟩
end Go.Proofs.YtknojjlfgjkbiaaGreatDoor
/- 'all' over lists of causes, reports, strings; ContainsFunc over numbers; within, nums. -/
namespace Go.Proofs.YtknojjlfgjkbiaaGreatDoor
open Go.ChangeShapes Go.WideShapes Go.ChangeAt Go.RowKit
attribute [local go_sem] Oper.semAt_some

theorem any_not {α : Type} (p : α → Bool) (l : List α) : (l.any fun x => !p x) = !(l.all p) := by
  induction l with
  | nil => rfl
  | cons x l ih => simp only [List.any_cons, List.all_cons, ih, Bool.not_and]

theorem not250 (g : Nat) (lb : Array Value) (eg : ∀ args w, (callFunc g args).run Tryz.prog w = .ok (.enter g args) w) (Bx : Nat) (b : Bool) (x : CsV) (W : World) (hb : Blk W Bx 100 #[.func (.func g) #[] lb])
    (hcall : ∀ W', Below W.heap.size W W' → Calls Tryz.prog g (#[x.val] ++ lb) W' fun e w' => e = .returned (.bool b) ∧ Below W'.heap.size W' w') :
    Calls Tryz.prog 272 #[x.val, .pointer (some ⟨Bx, 0, none⟩)] W fun e w' => e = .returned (.bool (!b)) ∧ Below W.heap.size W w' := by
  have hc := hcall (W.alloc (.cells #[.string x.c.unit, .slice x.n.a x.n.n x.n.c, .slice x.x.a x.x.n x.x.c] 29)) ((Below.refl _ W).alloc (Nat.le_refl _) _)
  have c0 : (W.alloc (.cells #[.string x.c.unit, .slice x.n.a x.n.n x.n.c, .slice x.x.a x.x.n x.x.c] 29)).cell? ⟨Bx, 0, none⟩ = some (.func (.func g) #[] lb) := (hb.alloc _).cell 0
  dsimp only [CsV.val] at hc
  have Hc := Lib.hid hc
  have hlt := hb.lt
  clear hcall hb hc
  go_enter Tryz.func272, Tryz.ntmps272
  go_wp2_with (go_at_fn g; refine Hc.out.mono ?_; rintro e w' ⟨rfl, hb'⟩)
  go_ret
  exact ⟨rfl, ((Below.refl _ W).alloc (Nat.le_refl _) (.cells #[.string x.c.unit, .slice x.n.a x.n.n x.n.c, .slice x.x.a x.x.n x.x.c] 29)).trans (hb'.mono (by simp))⟩
theorem all_162 (g : Nat) (lb : Array Value) (p : CsV → Bool) (eg : ∀ args w, (callFunc g args).run Tryz.prog w = .ok (.enter g args) w) (l : List CsV) (A : Option Addr) (c : Nat) (w : World)
    (hp : PredCs g lb p l w) (h : RdCs w w.heap.size A l) (hl : l.length ≤ 9223372036854775807) :
    Calls Tryz.prog 184 #[.slice A l.length c, .func (.func g) #[] lb] w fun e w' => e = .returned (.bool (l.all p)) ∧ Below w.heap.size w w' := by
  have h1 := Blk.new w 100 #[.func (.func g) #[] lb]
  have hB1 : Below w.heap.size w (w.alloc (.cells #[.func (.func g) #[] lb] 100)) := (Below.refl _ w).alloc (Nat.le_refl _) _
  have hcon := containsCs126 272 #[.pointer (some ⟨w.heap.size, 0, none⟩)] (fun x => !p x) (enters_of Tryz.func272 (by kernel_rfl) rfl) l A c (w.alloc (.cells #[.func (.func g) #[] lb] 100))
    (fun W x hx hW hrd => not250 g lb eg _ (p x) x W (h1.below hW h1.lt) fun W' hW' => hp W' x hx (hB1.trans ((hW.mono hB1.size).trans (hW'.mono (Nat.le_trans hB1.size hW.size)))) (hrd.below hW')) (h.below hB1) hl
  rw [any_not] at hcon
  have Hcon := Lib.hid hcon
  generalize l.all p = q at *
  clear h1 hB1 hcon hp h
  go_enter Tryz.func184, Tryz.ntmps184
  go_wp2_with fail
  refine Hcon.out.mono ?_
  rintro e w1 ⟨rfl, hb1⟩
  have HB := Lib.hid (((Below.refl _ w).alloc (Nat.le_refl _) (.cells #[.func (.func g) #[] lb] 100)).trans (hb1.mono (by simp)))
  clear Hcon hb1
  go_wp2
  go_ret
  exact ⟨by cases q <;> rfl, HB.out⟩

theorem not182 (g : Nat) (lb : Array Value) (eg : ∀ args w, (callFunc g args).run Tryz.prog w = .ok (.enter g args) w) (Bx : Nat) (b : Bool) (x : CsV) (W : World) (hb : Blk W Bx 100 #[.func (.func g) #[] lb])
    (hcall : ∀ W', Below W.heap.size W W' → Calls Tryz.prog g (#[x.val] ++ lb) W' fun e w' => e = .returned (.bool b) ∧ Below W'.heap.size W' w') :
    Calls Tryz.prog 204 #[x.val, .pointer (some ⟨Bx, 0, none⟩)] W fun e w' => e = .returned (.bool (!b)) ∧ Below W.heap.size W w' := by
  have hc := hcall (W.alloc (.cells #[.string x.c.unit, .slice x.n.a x.n.n x.n.c, .slice x.x.a x.x.n x.x.c] 29)) ((Below.refl _ W).alloc (Nat.le_refl _) _)
  have c0 : (W.alloc (.cells #[.string x.c.unit, .slice x.n.a x.n.n x.n.c, .slice x.x.a x.x.n x.x.c] 29)).cell? ⟨Bx, 0, none⟩ = some (.func (.func g) #[] lb) := (hb.alloc _).cell 0
  dsimp only [CsV.val] at hc
  have Hc := Lib.hid hc
  have hlt := hb.lt
  clear hcall hb hc
  go_enter Tryz.func204, Tryz.ntmps204
  go_wp2_with (go_at_fn g; refine Hc.out.mono ?_; rintro e w' ⟨rfl, hb'⟩)
  go_ret
  exact ⟨rfl, ((Below.refl _ W).alloc (Nat.le_refl _) (.cells #[.string x.c.unit, .slice x.n.a x.n.n x.n.c, .slice x.x.a x.x.n x.x.c] 29)).trans (hb'.mono (by simp))⟩
theorem all_95 (g : Nat) (lb : Array Value) (p : CsV → Bool) (eg : ∀ args w, (callFunc g args).run Tryz.prog w = .ok (.enter g args) w) (l : List CsV) (A : Option Addr) (c : Nat) (w : World)
    (hp : PredCs g lb p l w) (h : RdCs w w.heap.size A l) (hl : l.length ≤ 9223372036854775807) :
    Calls Tryz.prog 117 #[.slice A l.length c, .func (.func g) #[] lb] w fun e w' => e = .returned (.bool (l.all p)) ∧ Below w.heap.size w w' := by
  have h1 := Blk.new w 100 #[.func (.func g) #[] lb]
  have hB1 : Below w.heap.size w (w.alloc (.cells #[.func (.func g) #[] lb] 100)) := (Below.refl _ w).alloc (Nat.le_refl _) _
  have hcon := containsCs126 204 #[.pointer (some ⟨w.heap.size, 0, none⟩)] (fun x => !p x) (enters_of Tryz.func204 (by kernel_rfl) rfl) l A c (w.alloc (.cells #[.func (.func g) #[] lb] 100))
    (fun W x hx hW hrd => not182 g lb eg _ (p x) x W (h1.below hW h1.lt) fun W' hW' => hp W' x hx (hB1.trans ((hW.mono hB1.size).trans (hW'.mono (Nat.le_trans hB1.size hW.size)))) (hrd.below hW')) (h.below hB1) hl
  rw [any_not] at hcon
  have Hcon := Lib.hid hcon
  generalize l.all p = q at *
  clear h1 hB1 hcon hp h
  go_enter Tryz.func117, Tryz.ntmps117
  go_wp2_with fail
  refine Hcon.out.mono ?_
  rintro e w1 ⟨rfl, hb1⟩
  have HB := Lib.hid (((Below.refl _ w).alloc (Nat.le_refl _) (.cells #[.func (.func g) #[] lb] 100)).trans (hb1.mono (by simp)))
  clear Hcon hb1
  go_wp2
  go_ret
  exact ⟨by cases q <;> rfl, HB.out⟩

theorem not293 (g : Nat) (lb : Array Value) (eg : ∀ args w, (callFunc g args).run Tryz.prog w = .ok (.enter g args) w) (Bx : Nat) (b : Bool) (x : Rep) (W : World) (hb : Blk W Bx 113 #[.func (.func g) #[] lb])
    (hcall : ∀ W', Below W.heap.size W W' → Calls Tryz.prog g (#[x.val] ++ lb) W' fun e w' => e = .returned (.bool b) ∧ Below W'.heap.size W' w') :
    Calls Tryz.prog 315 #[x.val, .pointer (some ⟨Bx, 0, none⟩)] W fun e w' => e = .returned (.bool (!b)) ∧ Below W.heap.size W w' := by
  have hc := hcall (W.alloc (.cells #[.string x.unit, .int .i64 x.code] 32)) ((Below.refl _ W).alloc (Nat.le_refl _) _)
  have c0 : (W.alloc (.cells #[.string x.unit, .int .i64 x.code] 32)).cell? ⟨Bx, 0, none⟩ = some (.func (.func g) #[] lb) := (hb.alloc _).cell 0
  dsimp only [Rep.val] at hc
  have Hc := Lib.hid hc
  have hlt := hb.lt
  clear hcall hb hc
  go_enter Tryz.func315, Tryz.ntmps315
  go_wp2_with (go_at_fn g; refine Hc.out.mono ?_; rintro e w' ⟨rfl, hb'⟩)
  go_ret
  exact ⟨rfl, ((Below.refl _ W).alloc (Nat.le_refl _) (.cells #[.string x.unit, .int .i64 x.code] 32)).trans (hb'.mono (by simp))⟩
theorem all_251 (g : Nat) (lb : Array Value) (p : Rep → Bool) (eg : ∀ args w, (callFunc g args).run Tryz.prog w = .ok (.enter g args) w) (l : List Rep) (A : Option Addr) (c : Nat) (w : World)
    (hp : PredRep g lb p l w) (h : RdRep w w.heap.size A l) (hl : l.length ≤ 9223372036854775807) :
    Calls Tryz.prog 273 #[.slice A l.length c, .func (.func g) #[] lb] w fun e w' => e = .returned (.bool (l.all p)) ∧ Below w.heap.size w w' := by
  have h1 := Blk.new w 113 #[.func (.func g) #[] lb]
  have hB1 : Below w.heap.size w (w.alloc (.cells #[.func (.func g) #[] lb] 113)) := (Below.refl _ w).alloc (Nat.le_refl _) _
  have hcon := containsRep47 315 #[.pointer (some ⟨w.heap.size, 0, none⟩)] (fun x => !p x) (enters_of Tryz.func315 (by kernel_rfl) rfl) l A c (w.alloc (.cells #[.func (.func g) #[] lb] 113))
    (fun W x hx hW => not293 g lb eg _ (p x) x W (h1.below hW h1.lt) fun W' hW' => hp W' x hx (hB1.trans ((hW.mono hB1.size).trans (hW'.mono (Nat.le_trans hB1.size hW.size))))) (h.below hB1) hl
  rw [any_not] at hcon
  have Hcon := Lib.hid hcon
  generalize l.all p = q at *
  clear h1 hB1 hcon hp h
  go_enter Tryz.func273, Tryz.ntmps273
  go_wp2_with fail
  refine Hcon.out.mono ?_
  rintro e w1 ⟨rfl, hb1⟩
  have HB := Lib.hid (((Below.refl _ w).alloc (Nat.le_refl _) (.cells #[.func (.func g) #[] lb] 113)).trans (hb1.mono (by simp)))
  clear Hcon hb1
  go_wp2
  go_ret
  exact ⟨by cases q <;> rfl, HB.out⟩

theorem not174 (g : Nat) (lb : Array Value) (eg : ∀ args w, (callFunc g args).run Tryz.prog w = .ok (.enter g args) w) (Bx : Nat) (b : Bool) (x : Rep) (W : World) (hb : Blk W Bx 113 #[.func (.func g) #[] lb])
    (hcall : ∀ W', Below W.heap.size W W' → Calls Tryz.prog g (#[x.val] ++ lb) W' fun e w' => e = .returned (.bool b) ∧ Below W'.heap.size W' w') :
    Calls Tryz.prog 196 #[x.val, .pointer (some ⟨Bx, 0, none⟩)] W fun e w' => e = .returned (.bool (!b)) ∧ Below W.heap.size W w' := by
  have hc := hcall (W.alloc (.cells #[.string x.unit, .int .i64 x.code] 32)) ((Below.refl _ W).alloc (Nat.le_refl _) _)
  have c0 : (W.alloc (.cells #[.string x.unit, .int .i64 x.code] 32)).cell? ⟨Bx, 0, none⟩ = some (.func (.func g) #[] lb) := (hb.alloc _).cell 0
  dsimp only [Rep.val] at hc
  have Hc := Lib.hid hc
  have hlt := hb.lt
  clear hcall hb hc
  go_enter Tryz.func196, Tryz.ntmps196
  go_wp2_with (go_at_fn g; refine Hc.out.mono ?_; rintro e w' ⟨rfl, hb'⟩)
  go_ret
  exact ⟨rfl, ((Below.refl _ W).alloc (Nat.le_refl _) (.cells #[.string x.unit, .int .i64 x.code] 32)).trans (hb'.mono (by simp))⟩
theorem all_90 (g : Nat) (lb : Array Value) (p : Rep → Bool) (eg : ∀ args w, (callFunc g args).run Tryz.prog w = .ok (.enter g args) w) (l : List Rep) (A : Option Addr) (c : Nat) (w : World)
    (hp : PredRep g lb p l w) (h : RdRep w w.heap.size A l) (hl : l.length ≤ 9223372036854775807) :
    Calls Tryz.prog 112 #[.slice A l.length c, .func (.func g) #[] lb] w fun e w' => e = .returned (.bool (l.all p)) ∧ Below w.heap.size w w' := by
  have h1 := Blk.new w 113 #[.func (.func g) #[] lb]
  have hB1 : Below w.heap.size w (w.alloc (.cells #[.func (.func g) #[] lb] 113)) := (Below.refl _ w).alloc (Nat.le_refl _) _
  have hcon := containsRep47 196 #[.pointer (some ⟨w.heap.size, 0, none⟩)] (fun x => !p x) (enters_of Tryz.func196 (by kernel_rfl) rfl) l A c (w.alloc (.cells #[.func (.func g) #[] lb] 113))
    (fun W x hx hW => not174 g lb eg _ (p x) x W (h1.below hW h1.lt) fun W' hW' => hp W' x hx (hB1.trans ((hW.mono hB1.size).trans (hW'.mono (Nat.le_trans hB1.size hW.size))))) (h.below hB1) hl
  rw [any_not] at hcon
  have Hcon := Lib.hid hcon
  generalize l.all p = q at *
  clear h1 hB1 hcon hp h
  go_enter Tryz.func112, Tryz.ntmps112
  go_wp2_with fail
  refine Hcon.out.mono ?_
  rintro e w1 ⟨rfl, hb1⟩
  have HB := Lib.hid (((Below.refl _ w).alloc (Nat.le_refl _) (.cells #[.func (.func g) #[] lb] 113)).trans (hb1.mono (by simp)))
  clear Hcon hb1
  go_wp2
  go_ret
  exact ⟨by cases q <;> rfl, HB.out⟩

theorem not212 (g : Nat) (lb : Array Value) (eg : ∀ args w, (callFunc g args).run Tryz.prog w = .ok (.enter g args) w) (Bx : Nat) (b : Bool) (x : ByteArray) (W : World) (hb : Blk W Bx 114 #[.func (.func g) #[] lb])
    (hcall : ∀ W', Below W.heap.size W W' → Calls Tryz.prog g (#[.string x] ++ lb) W' fun e w' => e = .returned (.bool b) ∧ Below W'.heap.size W' w') :
    Calls Tryz.prog 234 #[.string x, .pointer (some ⟨Bx, 0, none⟩)] W fun e w' => e = .returned (.bool (!b)) ∧ Below W.heap.size W w' := by
  have hc := hcall W (Below.refl _ W)
  have c0 : W.cell? ⟨Bx, 0, none⟩ = some (.func (.func g) #[] lb) := hb.cell 0
  have Hc := Lib.hid hc
  have hlt := hb.lt
  clear hcall hb hc
  go_enter Tryz.func234, Tryz.ntmps234
  go_wp2_with (go_at_fn g; refine Hc.out.mono ?_; rintro e w' ⟨rfl, hb'⟩)
  go_ret
  exact ⟨rfl, hb'⟩
theorem all_132 (g : Nat) (lb : Array Value) (p : ByteArray → Bool) (eg : ∀ args w, (callFunc g args).run Tryz.prog w = .ok (.enter g args) w) (l : List ByteArray) (A : Option Addr) (c : Nat) (w : World)
    (hp : PredStr g lb p l w) (h : RdStr w w.heap.size A l) (hl : l.length ≤ 9223372036854775807) :
    Calls Tryz.prog 154 #[.slice A l.length c, .func (.func g) #[] lb] w fun e w' => e = .returned (.bool (l.all p)) ∧ Below w.heap.size w w' := by
  have h1 := Blk.new w 114 #[.func (.func g) #[] lb]
  have hB1 : Below w.heap.size w (w.alloc (.cells #[.func (.func g) #[] lb] 114)) := (Below.refl _ w).alloc (Nat.le_refl _) _
  have hcon := containsStr48 234 #[.pointer (some ⟨w.heap.size, 0, none⟩)] (fun x => !p x) (enters_of Tryz.func234 (by kernel_rfl) rfl) l A c (w.alloc (.cells #[.func (.func g) #[] lb] 114))
    (fun W x hx hW => not212 g lb eg _ (p x) x W (h1.below hW h1.lt) fun W' hW' => hp W' x hx (hB1.trans ((hW.mono hB1.size).trans (hW'.mono (Nat.le_trans hB1.size hW.size))))) (h.below hB1) hl
  rw [any_not] at hcon
  have Hcon := Lib.hid hcon
  generalize l.all p = q at *
  clear h1 hB1 hcon hp h
  go_enter Tryz.func154, Tryz.ntmps154
  go_wp2_with fail
  refine Hcon.out.mono ?_
  rintro e w1 ⟨rfl, hb1⟩
  have HB := Lib.hid (((Below.refl _ w).alloc (Nat.le_refl _) (.cells #[.func (.func g) #[] lb] 114)).trans (hb1.mono (by simp)))
  clear Hcon hb1
  go_wp2
  go_ret
  exact ⟨by cases q <;> rfl, HB.out⟩

/-- a slice of numbers. -/
def RdInt (w : World) (B : Nat) (A : Option Addr) (l : List Int) : Prop :=
  0 < l.length → ∃ b o, A = some ⟨b, o, none⟩ ∧ b < B ∧ ∀ i (h : i < l.length), w.cell? ⟨b, o + i, none⟩ = some (.int .i64 l[i])
def PredInt (g : Nat) (lb : Array Value) (p : Int → Bool) (l : List Int) (w : World) : Prop :=
  ∀ (W : World) (r : Int), r ∈ l → Below w.heap.size w W → Calls Tryz.prog g (#[.int .i64 r] ++ lb) W fun e w' => e = .returned (.bool (p r)) ∧ Below W.heap.size W w'
theorem RdInt.keep {w w' : World} {B : Nat} {A : Option Addr} {l : List Int} (h : RdInt w B A l) (hb : Below B w w') : RdInt w' B A l := fun hn => by
  obtain ⟨b, o, rfl, hbB, hc⟩ := h hn
  exact ⟨b, o, rfl, hbB, fun i hi => (hb.cell (p := ⟨b, o + i, none⟩) hbB).trans (hc i hi)⟩
theorem index254 (g : Nat) (lb : Array Value) (p : Int → Bool) (eg : ∀ args w, (callFunc g args).run Tryz.prog w = .ok (.enter g args) w) (l : List Int) (A : Option Addr) (c : Nat) (w : World)
    (hp : PredInt g lb p l w) (h : RdInt w w.heap.size A l) (hl : l.length ≤ 9223372036854775807) :
    Calls Tryz.prog 276 #[.slice A l.length c, .func (.func g) #[] lb] w fun e w' => e = .returned (.int .i64 (idxI p l)) ∧ Below w.heap.size w w' := by
  go_enter Tryz.func276, Tryz.ntmps276
  go_wp2
  go_loopw [5, 8] (fun _ i wr => ∃ k : Nat, k ≤ l.length ∧ i = .int .i64 k ∧ Below w.heap.size w wr ∧ Hid (∀ j (h : j < l.length), j < k → p l[j] = false)) (fun _ i _ => l.length - (intOf i).toNat)
  case atStart => exact ⟨0, Nat.zero_le _, rfl, Below.refl _ _, fun j _ h => absurd h (by omega)⟩
  case round =>
    obtain ⟨k, hk, rfl, hB, hall⟩ := hrel
    by_cases hlt : k < l.length
    · obtain ⟨b, o, rfl, hb, hc⟩ := h.keep hB (by omega)
      have hck := hc k hlt
      have hcall := hp wr l[k] (List.getElem_mem hlt) hB
      clear hc hp h
      have hs := hB.size
      have hfin : p l[k] = true → idxI p l = k := fun hq => idxI_hit hlt hq hall.out
      have hnext : p l[k] = false → ∀ j (h : j < l.length), j < k + 1 → p l[j] = false := fun hq => forall_succ (p := fun r => p r = false) hall.out hq
      have Hfin := Lib.hid hfin
      have Hnext := Lib.hid hnext
      clear hfin hnext hall
      generalize l[k] = r at hck hcall Hfin Hnext
      have c0 := hck
      clear hck
      cases hq : p r with
      | true =>
        have hfin := Lib.hid (Hfin.out hq)
        rw [hq] at hcall
        clear Hfin Hnext hq
        go_wp2_with (go_at_fn g; refine hcall.mono ?_; rintro e w' ⟨rfl, hb'⟩)
        go_ret
        exact ⟨ret_int hfin.out.symm, hB.trans (hb'.mono hs)⟩
      | false =>
        have hnext := Lib.hid (Hnext.out hq)
        rw [hq] at hcall
        clear Hfin Hnext hq
        go_wp2_with (go_at_fn g; refine hcall.mono ?_; rintro e w' ⟨rfl, hb'⟩)
        go_roundw
        case rel => exact ⟨k + 1, by omega, by go_num, hB.trans (hb'.mono hs), hnext⟩
        case measure => simp [intOf]; omega
    · go_wp2
      go_ret
      exact ⟨ret_int (idxI_miss fun j hj => hall.out j hj (by omega)).symm, hB⟩
theorem contains166 (g : Nat) (lb : Array Value) (p : Int → Bool) (eg : ∀ args w, (callFunc g args).run Tryz.prog w = .ok (.enter g args) w) (l : List Int) (A : Option Addr) (c : Nat) (w : World)
    (hp : PredInt g lb p l w) (h : RdInt w w.heap.size A l) (hl : l.length ≤ 9223372036854775807) :
    Calls Tryz.prog 188 #[.slice A l.length c, .func (.func g) #[] lb] w fun e w' => e = .returned (.bool (l.any p)) ∧ Below w.heap.size w w' := by
  have hI := index254 g lb p eg l A c w hp h hl
  rw [← idxI_ge]
  generalize idxI p l = q at hI ⊢
  clear h hp
  go_enter Tryz.func188, Tryz.ntmps188
  go_wp2_with fail
  refine hI.mono ?_
  rintro e w1 ⟨rfl, hb1⟩
  clear hI
  go_wp2
  go_ret
  exact ⟨rfl, hb1⟩
theorem any_none {α : Type} {p : α → Bool} {l : List α} (h : ∀ x ∈ l, p x = false) : l.any p = false := by
  rw [List.any_eq_false]; intro x hx; rw [h x hx]; simp
/-- numbers that can be printed. -/
theorem nums_c (l : List Int) (A : Option Addr) (c : Nat) (w : World) (h : RdInt w w.heap.size A l) (hl : l.length ≤ 9223372036854775807) (hok : ∀ x ∈ l, 0 ≤ x ∧ x ≤ 1073741824) :
    Calls Tryz.prog 257 #[.slice A l.length c] w fun e w' => e = .returned (.bool true) ∧ Below w.heap.size w w' := by
  have hcon := contains166 304 #[] (fun _ => false) (enters_of Tryz.func304 (by kernel_rfl) rfl) l A c w (fun W r hr hW => by
    obtain ⟨h1, h2⟩ := hok r hr
    have e1 : decide (r < 0) = false := by simp; omega
    have e2 : decide (r > 1073741824) = false := by simp; omega
    clear h1 h2
    go_enter Tryz.func304, Tryz.ntmps304
    go_wp2
    go_ret
    exact ⟨rfl, Below.refl _ _⟩) h hl
  rw [any_none (fun _ _ => rfl)] at hcon
  have Hcon := Lib.hid hcon
  clear hcon h hok
  go_enter Tryz.func257, Tryz.ntmps257
  go_wp2_with fail
  refine Hcon.out.mono ?_
  rintro e w1 ⟨rfl, hb1⟩
  go_wp2
  go_ret
  exact ⟨rfl, hb1⟩
/-- numbers within a range. -/
theorem within_c (lo hi : Int) (l : List Int) (A : Option Addr) (c : Nat) (w : World) (h : RdInt w w.heap.size A l) (hl : l.length ≤ 9223372036854775807) (hok : ∀ x ∈ l, lo ≤ x ∧ x ≤ hi) :
    Calls Tryz.prog 101 #[.int .i64 lo, .int .i64 hi, .slice A l.length c] w fun e w' => e = .returned (.bool true) ∧ Below w.heap.size w w' := by
  obtain ⟨w1, hw1⟩ : ∃ w1, w1 = (w.alloc (.cells #[.int .i64 lo] 3)).alloc (.cells #[.int .i64 hi] 3) := ⟨_, rfl⟩
  have hB1 : Below w.heap.size w w1 := by rw [hw1]; exact ((Below.refl _ w).alloc (Nat.le_refl _) _).alloc (by simp) _
  have b1 : Blk w1 w.heap.size 3 #[.int .i64 lo] := by rw [hw1]; exact (Blk.new w _ _).alloc _
  have b2 : Blk w1 (w.heap.size + 1) 3 #[.int .i64 hi] := by rw [hw1]; have := Blk.new (w.alloc (.cells #[.int .i64 lo] 3)) 3 #[.int .i64 hi]; rwa [World.size_alloc] at this
  have hcon := contains166 189 #[.pointer (some ⟨w.heap.size, 0, none⟩), .pointer (some ⟨w.heap.size + 1, 0, none⟩)] (fun _ => false) (enters_of Tryz.func189 (by kernel_rfl) rfl) l A c w1 (fun W r hr hW => by
    obtain ⟨h1, h2⟩ := hok r hr
    have e1 : decide (r < lo) = false := by simp; omega
    have e2 : decide (r > hi) = false := by simp; omega
    have c1 : W.cell? ⟨w.heap.size, 0, none⟩ = some (.int .i64 lo) := (b1.below hW b1.lt).cell 0
    have c2 : W.cell? ⟨w.heap.size + 1, 0, none⟩ = some (.int .i64 hi) := (b2.below hW b2.lt).cell 0
    clear h1 h2 b1 b2 hW hB1 hw1 h hok
    go_enter Tryz.func189, Tryz.ntmps189
    go_wp2
    go_ret
    exact ⟨rfl, Below.refl _ _⟩) (fun hn => by obtain ⟨b, o, e, hb, hc⟩ := h.keep hB1 hn; exact ⟨b, o, e, Nat.lt_of_lt_of_le hb hB1.size, hc⟩) hl
  rw [any_none (fun _ _ => rfl)] at hcon
  have Hcon := Lib.hid hcon
  have HB1 := Lib.hid hB1
  have Hw1 := Lib.hid hw1
  clear hcon h hok hB1 b1 b2 hw1
  go_enter Tryz.func101, Tryz.ntmps101
  go_wp2_with fail
  rw [← Hw1.out]
  refine Hcon.out.mono ?_
  rintro e w2 ⟨rfl, hb2⟩
  have HB := Lib.hid (HB1.out.trans (hb2.mono HB1.out.size))
  clear hb2
  go_wp2
  go_ret
  exact ⟨rfl, HB.out⟩
end Go.Proofs.YtknojjlfgjkbiaaGreatDoor
/- maint.New: the walk. -/
namespace Go.Proofs.YtknojjlfgjkbiaaGreatDoor
open Go.ChangeShapes Go.WideShapes Go.ChangeAt Go.RowKit
attribute [local go_sem] Oper.semAt_some

/-- a configuration as a value. -/
abbrev cfgV (v0 v1 v2 v3 v4 v5 : Value) (A : Option Addr) (n c : Nat) (v7 : Value) : Value := .agg #[v0, v1, v2, v3, v4, v5, .slice A n c, v7]
set_option maxRecDepth 100000 in
set_option maxHeartbeats 4000000 in
theorem New_c (L : List CsV) (v0 v1 v2 v3 v4 v5 v7 : Value) (A : Option Addr) (c : Nat) (w : World) (h : RdCs w w.heap.size A L) (hl : L.length ≤ 1000) (hn : ∀ x ∈ L, x.c.needs.length ≤ 1000) (hxl : ∀ x ∈ L, x.c.excl.length ≤ 1000)
    (hchk : ∀ W, Below w.heap.size w W → Calls Tryz.prog 40 #[cfgV v0 v1 v2 v3 v4 v5 A L.length c v7] W fun e w' => e = .returned (.int .i64 0) ∧ Below W.heap.size W w') :
    Calls Tryz.prog 12 #[cfgV v0 v1 v2 v3 v4 v5 A L.length c v7] w fun e w' => ∃ g mb A' c' L', e = .returned (.tuple #[.pointer (some ⟨g, 0, none⟩), .int .i64 0]) ∧ Blk w' g 95 #[.slice A' L'.length c', .map (some mb)] ∧ RdCs w' w'.heap.size A' L' ∧ csOf L' = csOf L ∧ CntMap KR w' mb [] ∧ w.heap.size ≤ mb ∧ w.heap.size ≤ g ∧ Below w.heap.size w w' := by
  have hz : (w.alloc (.cells #[v0, v1, v2, v3, v4, v5, .slice A L.length c, v7] 53)).heap.size = w.heap.size + 1 := by simp
  have hc1 := hchk (w.alloc (.cells #[v0, v1, v2, v3, v4, v5, .slice A L.length c, v7] 53)) ((Below.refl _ _).alloc (Nat.le_refl _) _)
  have hbk := Blk.new w 53 #[v0, v1, v2, v3, v4, v5, .slice A L.length c, v7]
  have Hc1 := Lib.hid hc1
  have Hbk := Lib.hid hbk
  have H := Lib.hid h
  have Hn := Lib.hid hn
  have Hxl := Lib.hid hxl
  have hmk := @run_makeMap Tryz.prog
  have k0 := hbk.cell 0
  have k1 := hbk.cell 1
  have k2 := hbk.cell 2
  have k3 := hbk.cell 3
  have k4 := hbk.cell 4
  have k5 := hbk.cell 5
  have k6 := hbk.cell 6
  have k7 := hbk.cell 7
  clear hc1 hbk h hn hxl hchk hz
  go_enter Tryz.func12, Tryz.ntmps12
  go_wp2_with fail
  refine Hc1.out.mono ?_
  rintro e w1 ⟨rfl, hb1⟩
  have hbk1 := Hbk.out.below hb1 (by simp)
  have j6 : w1.cell? ⟨w.heap.size, 6, none⟩ = some (.slice A L.length c) := hbk1.cell 6
  have hB1 : Below w.heap.size w w1 := ((Below.refl _ w).alloc (Nat.le_refl _) (.cells #[v0, v1, v2, v3, v4, v5, .slice A L.length c, v7] 53)).trans (hb1.mono (by simp))
  have HB1 := Lib.hid hB1
  clear k0 k1 k2 k3 k4 k5 k6 k7 hb1 hbk1 hB1 Hc1
  go_wp2_with fail
  go_loopw [4, 13] (fun v t wr => ∃ (k : Nat) (L' : List CsV), k ≤ L.length ∧ t = .int .i64 k ∧ csOf L' = csOf (L.take k) ∧ NewSt w1 w1.heap.size L' v wr) (fun _ t wr => L.length - (intOf t).toNat)
  case atStart => exact ⟨0, [], Nat.zero_le _, rfl, rfl, Below.refl _ _, Nat.le_refl _, World.ownsRow_nil _ _ _ _, fun x h => absurd h (by simp)⟩
  case round =>
    obtain ⟨k, L', hk, rfl, hL', hS⟩ := hrel
    obtain ⟨Av, cv, rfl, _⟩ := own_caps hS.own
    by_cases hlt : k < L.length
    · have hwr := HB1.out.trans (hS.below.mono HB1.out.size)
      obtain ⟨bo, oo, rfl, hb, hc⟩ := (H.out.keep hwr) (by omega)
      obtain ⟨d0, d1, d2, hx⟩ := hc k hlt
      have hny := Hn.out _ (List.getElem_mem hlt)
      have hxy := Hxl.out _ (List.getElem_mem hlt)
      have hbw : bo < wr.heap.size := World.block_lt_of_cell? wr _ d0
      have htk : csOf (L.take (k + 1)) = csOf L' ++ [L[k].c] := by rw [hL']; unfold csOf; rw [List.take_succ_eq_append_getElem hlt, List.map_append]; rfl
      have hll : L'.length ≤ 1000 := by have := congrArg List.length hL'; simp at this; omega
      have hxr := hx.more (B' := wr.heap.size) (by have := hwr.size; omega)
      have Htk := Lib.hid htk
      have HS := Lib.hid hS
      have hsw := hS.size
      clear hwr hc hx htk hL' hS
      generalize L[k] = x at *
      have Hx := Lib.hid hxr
      have e1 : wr.cell? ⟨bo, oo + k * 3 + 1, none⟩ = some (.slice x.n.a x.c.needs.length x.n.c) := by rw [← hxr.nl]; exact d1
      have e2 : wr.cell? ⟨bo, oo + k * 3 + 2, none⟩ = some (.slice x.x.a x.c.excl.length x.x.c) := by rw [← hxr.xl]; exact d2
      clear d1 d2
      obtain ⟨w2, hw2⟩ : ∃ w2, w2 = wr.alloc (.cells #[.string x.c.unit, .slice x.n.a x.c.needs.length x.n.c, .slice x.x.a x.c.excl.length x.x.c] 29) := ⟨_, rfl⟩
      have hB2 : Below wr.heap.size wr w2 := by rw [hw2]; exact (Below.refl _ _).alloc (Nat.le_refl _) _
      have hbx : Blk w2 wr.heap.size 29 #[.string x.c.unit, .slice x.n.a x.c.needs.length x.n.c, .slice x.x.a x.c.excl.length x.x.c] := by rw [hw2]; exact Blk.new wr _ _
      have hHeld : w2.drew.cell? ⟨wr.heap.size, 0, none⟩ = some (.string x.c.unit) ∧ w2.drew.cell? ⟨wr.heap.size, 1, none⟩ = some (.slice x.n.a x.c.needs.length x.n.c) ∧ w2.drew.cell? ⟨wr.heap.size, 2, none⟩ = some (.slice x.x.a x.c.excl.length x.x.c) := ⟨hbx.cell 0, hbx.cell 1, hbx.cell 2⟩
      have HB2 := Lib.hid hB2
      have HW2 := Lib.hid hw2
      clear hxr hB2 hbx hw2
      go_wp2_with fail
      rw [← HW2.out]
      refine wp_region_S (fun W' => W'.cell? ⟨wr.heap.size, 0, none⟩ = some (.string x.c.unit) ∧ W'.cell? ⟨wr.heap.size, 1, none⟩ = some (.slice x.n.a x.c.needs.length x.n.c) ∧ W'.cell? ⟨wr.heap.size, 2, none⟩ = some (.slice x.x.a x.c.excl.length x.x.c)) 12 (by kernel_rfl) hHeld (fun hHeld => ?_)
      refine wpAnyS_take (i := 0) (v := ?_) rfl (by kernel_rfl) (by kernel_rfl) (by kernel_rfl) (by kernel_rfl) (fun c a w h => h) (Or.inl ⟨by rfl, ?_⟩) hHeld ?_
      rotate_left
      · intro w hSw
        (try obtain ⟨hSw1, hSw2, hSw3⟩ := hSw)
        go_simp
        first | done | with_reducible rfl
      simp only [Act.put, List.setIfInBounds_toArray, List.set_cons_zero, List.set_cons_succ]
      refine wpAnyS_take (i := 1) (v := ?_) rfl (by kernel_rfl) (by kernel_rfl) (by kernel_rfl) (by kernel_rfl) (fun c a w h => h) (Or.inl ⟨by rfl, ?_⟩) hHeld ?_
      rotate_left
      · intro w hSw
        (try obtain ⟨hSw1, hSw2, hSw3⟩ := hSw)
        go_simp
        first | done | with_reducible rfl
      simp only [Act.put, List.setIfInBounds_toArray, List.set_cons_zero, List.set_cons_succ]
      refine wpAnyS_take (i := 2) (v := ?_) rfl (by kernel_rfl) (by kernel_rfl) (by kernel_rfl) (by kernel_rfl) (fun c a w h => h) (Or.inl ⟨by rfl, ?_⟩) hHeld ?_
      rotate_left
      · intro w hSw
        (try obtain ⟨hSw1, hSw2, hSw3⟩ := hSw)
        go_simp
        first | done | with_reducible rfl
      simp only [Act.put, List.setIfInBounds_toArray, List.set_cons_zero, List.set_cons_succ]
      refine wpAnyS_take (i := 3) (v := ?_) rfl (by kernel_rfl) (by kernel_rfl) (by kernel_rfl) (by kernel_rfl) (fun c a w h => h) (Or.inl ⟨by rfl, ?_⟩) hHeld ?_
      rotate_left
      · intro w hSw
        (try obtain ⟨hSw1, hSw2, hSw3⟩ := hSw)
        go_simp
        first | done | with_reducible rfl
      simp only [Act.put, List.setIfInBounds_toArray, List.set_cons_zero, List.set_cons_succ]
      refine wpAnyS_take (i := 4) (v := ?_) rfl (by kernel_rfl) (by kernel_rfl) (by kernel_rfl) (by kernel_rfl) (fun c a w h => h) (Or.inl ⟨by rfl, ?_⟩) hHeld ?_
      rotate_left
      · intro w hSw
        (try obtain ⟨hSw1, hSw2, hSw3⟩ := hSw)
        go_simp
        first | done | with_reducible rfl
      simp only [Act.put, List.setIfInBounds_toArray, List.set_cons_zero, List.set_cons_succ]
      refine wpAnyS_take (i := 6) (v := ?_) rfl (by kernel_rfl) (by kernel_rfl) (by kernel_rfl) (by kernel_rfl) (fun c a w h => h) (Or.inl ⟨by rfl, ?_⟩) hHeld ?_
      rotate_left
      · intro w hSw
        (try obtain ⟨hSw1, hSw2, hSw3⟩ := hSw)
        go_simp
        first | done | with_reducible rfl
      simp only [Act.put, List.setIfInBounds_toArray, List.set_cons_zero, List.set_cons_succ]
      refine wpAnyS_take (i := 7) (v := ?_) rfl (by kernel_rfl) (by kernel_rfl) (by kernel_rfl) (by kernel_rfl) (fun c a w h => h) (Or.inl ⟨by rfl, ?_⟩) hHeld ?_
      rotate_left
      · intro w hSw
        (try obtain ⟨hSw1, hSw2, hSw3⟩ := hSw)
        go_simp
        first | done | with_reducible rfl
      simp only [Act.put, List.setIfInBounds_toArray, List.set_cons_zero, List.set_cons_succ]
      have hS2 := (HS.out.next HB2.out).next (W' := w2.drew) (Below.refl _ _).drew
      have hcl := cloneRep_c x.c.needs x.n.a x.n.c w2.drew (Hx.out.below (w' := w2.drew) HB2.out.drew).n (by omega)
      have Hcl := Lib.hid hcl
      clear hcl
      refine wpAnyS_ready (rs := [5]) (by kernel_rfl) (by simp) ?_
      refine AllReadyS.cons rfl (fun K hK => ?_) AllReadyS.nil
      go_simp
      refine Hcl.out.mono ?_
      rintro e W5 ⟨A5, c5, rfl, hn5, hm5, hown5, hb5⟩
      have hc5 := fun (p : Addr) (x : Value) (hp : w2.drew.cell? p = some x) => (hb5.cell (p := p) (World.block_lt_of_cell? _ _ hp)).trans hp
      have hHeld5 := And.intro (hc5 _ _ hHeld.1) (And.intro (hc5 _ _ hHeld.2.1) (hc5 _ _ hHeld.2.2))
      have hS5 := hS2.next hb5
      have hcl2 := cloneStr_c x.c.excl x.x.a x.x.c W5 ((Hx.out.below (w' := w2.drew) HB2.out.drew).below hb5).x (by omega)
      have Hcl2 := Lib.hid hcl2
      have HS5 := Lib.hid hS5
      have hsz2 : w1.heap.size ≤ w2.drew.heap.size := hS2.size
      have Hown5 := Lib.hid (own_base hown5 hsz2)
      refine hK.out _ _ (fun _ => hHeld5) ?_
      clear hK hc5 hb5 hS5 hcl2 hS2 hown5 Hcl hHeld
      refine wpAnyS_ready (rs := [8]) (by kernel_rfl) (by simp) ?_
      refine AllReadyS.cons rfl (fun K hK => ?_) AllReadyS.nil
      go_simp
      refine Hcl2.out.mono ?_
      rintro e W8 ⟨A8, c8, rfl, hn8, hm8, hown8, hb8⟩
      have hc8 := fun (p : Addr) (x : Value) (hp : W5.cell? p = some x) => (hb8.cell (p := p) (World.block_lt_of_cell? _ _ hp)).trans hp
      have hHeld8 := And.intro (hc8 _ _ hHeld5.1) (And.intro (hc8 _ _ hHeld5.2.1) (hc8 _ _ hHeld5.2.2))
      have hS8 := HS5.out.next hb8
      have hoc : OwnCs W8 w1.heap.size ⟨x.c, ⟨A5, x.c.needs.length, c5⟩, ⟨A8, x.c.excl.length, c8⟩⟩ :=
        ⟨rfl, hn5, hm5, own_keep Hown5.out (below_grown (row := none) hb8) (fun r e => by cases e), rfl, hn8, hm8, own_base hown8 HS5.out.size⟩
      have HS8 := Lib.hid hS8
      have Hoc := Lib.hid hoc
      refine hK.out _ _ (fun _ => hHeld8) ?_
      clear hK hc8 hb8 hS8 hoc hown8 Hcl2 hHeld5 Hown5 HS5
      refine wpAnyS_take (i := 9) (v := ?_) rfl (by kernel_rfl) (by kernel_rfl) (by kernel_rfl) (by kernel_rfl) (fun c a w h => h) (Or.inl ⟨by rfl, ?_⟩) hHeld8 ?_
      rotate_left
      · intro w hSw
        (try obtain ⟨hSw1, hSw2, hSw3⟩ := hSw)
        go_simp
        first | done | with_reducible rfl
      simp only [Act.put, List.setIfInBounds_toArray, List.set_cons_zero, List.set_cons_succ]
      obtain ⟨i0, hi0, hz0, hz1, hz3⟩ := info_parts info33
      refine wpAnyS_ready (rs := [10]) (by kernel_rfl) (by simp) ?_
      refine AllReadyS.cons rfl (fun K hK => ?_) AllReadyS.nil
      go_simp
      have hal := fun (p : Addr) (y : Value) (hp : W8.cell? p = some y) => (World.cell?_alloc_lt W8 (.cells #[.string x.c.unit, .slice A5 x.c.needs.length c5, .slice A8 x.c.excl.length c8] 29) p (World.block_lt_of_cell? _ _ hp)).trans hp
      have hHeld9 := And.intro (hal _ _ hHeld8.1) (And.intro (hal _ _ hHeld8.2.1) (hal _ _ hHeld8.2.2))
      refine hK.out _ _ (fun _ => hHeld9) ?_
      clear hK hal hHeld8
      refine wpAnyS_ready (rs := [11]) (by kernel_rfl) (by simp) ?_
      refine AllReadyS.cons rfl (fun K hK => ?_) AllReadyS.nil
      refine step_append_own (by rfl) (.tmp 17) (.tmp 27) 77 (by rfl) w1.heap.size 29 i0 (.agg #[.string ⟨#[]⟩, .slice none 0 0, .slice none 0 0]) 3 64 Tryz.underlying77 hi0 hz0 hz1 hz3 rfl (by decide) (.slice Av L'.length cv) L'.length _ (by rfl) (HS8.out.own.alloc _) ⟨W8.heap.size, 0, none⟩ 1 1 [.string x.c.unit, .slice A5 x.c.needs.length c5, .slice A8 x.c.excl.length c8] (by rfl) (by rfl) ?c1 ?c2 ?c3 ?c4 ?c5 ?_
      case c1 =>
        intro j u' hj
        rw [addr_add_none, Nat.zero_add, (Blk.new W8 29 #[.string x.c.unit, .slice A5 x.c.needs.length c5, .slice A8 x.c.excl.length c8]).cell j]
        simpa using hj
      case c2 => intro u' hu'; simp at hu'; rcases hu' with rfl | rfl | rfl <;> rfl
      case c3 => unfold maxLen; omega
      case c4 => omega
      case c5 => have := HS8.out.size; simp; omega
      intro v6 wo hown6 hg6
      have HS9 := Lib.hid (HS8.out.step Hoc.out hown6 hg6)
      have hne : some wr.heap.size ≠ (Value.slice Av L'.length cv).ownBlock := fun e => by have := (HS.out.own.lt _ e.symm).2; omega
      have hcw := fun i (y : Value) (hp : (W8.alloc (.cells #[.string x.c.unit, .slice A5 x.c.needs.length c5, .slice A8 x.c.excl.length c8] 29)).cell? ⟨wr.heap.size, i, none⟩ = some y) => (World.cell?_of_block (a := ⟨wr.heap.size, i, none⟩) (hg6.block wr.heap.size (World.block_lt_of_cell? _ _ hp) hne)).trans hp
      have hHeld10 := And.intro (hcw _ _ hHeld9.1) (And.intro (hcw _ _ hHeld9.2.1) (hcw _ _ hHeld9.2.2))
      refine hK.out _ _ (fun _ => hHeld10) ?_
      clear hK hHeld9 hcw hown6 hg6 HS8 Hoc hne
      refine wpAnyS_ready (rs := [12]) (by kernel_rfl) (by simp) ?_
      refine AllReadyS.cons rfl (fun K hK => ?_) AllReadyS.nil
      go_simp
      refine hK.out _ _ (fun h => absurd h (by decide)) ?_
      clear hK
      refine wpAnyS_done (by kernel_rfl) ?_ _
      go_wp2_with fail
      go_roundw
      case rel => exact ⟨k + 1, _, by omega, by go_num, by rw [Htk.out]; unfold csOf; rw [List.map_append]; rfl, HS9.out⟩
      case measure => simp [intOf]; omega
    · obtain rfl : k = L.length := by omega
      rw [List.take_length] at hL'
      have HS := Lib.hid hS
      have HL' := Lib.hid hL'
      clear hS hL'
      go_wp2_with fail
      refine bodyPost_ret (results_tmp2 rfl _ _ _) rfl ?_
      have hb3 := HB1.out.trans (HS.out.below.mono HB1.out.size)
      have hz3 := hb3.size
      have hbk := Blk.new (wr.alloc (.map #[] 0)) 95 #[.slice Av L'.length cv, .map (some wr.heap.size)]
      rw [World.size_alloc] at hbk
      have hbe := ((Below.refl _ wr).alloc (Nat.le_refl _) (.map #[] 0)).alloc (by simp) (.cells #[.slice Av L'.length cv, .map (some wr.heap.size)] 95)
      exact ⟨wr.heap.size + 1, wr.heap.size, Av, cv, L', rfl, hbk, HS.out.rd.below hbe, HL'.out, (CntMap.made wr).alloc _, hz3, by omega, hb3.trans (hbe.mono hz3)⟩
end Go.Proofs.YtknojjlfgjkbiaaGreatDoor
