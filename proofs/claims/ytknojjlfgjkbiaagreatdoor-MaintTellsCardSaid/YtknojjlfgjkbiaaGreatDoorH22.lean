/- Texts K6 K17 I0, joined. -/
import Derived.Test.YtknojjlfgjkbiaaGreatDoorH21
set_option linter.unusedSimpArgs false
set_option linter.unusedVariables false
set_option linter.unusedSectionVars false
/- format: words, a cause, a configuration that holds causes alone. -/
namespace Go.Proofs.YtknojjlfgjkbiaaGreatDoor
open Go.ChangeShapes Go.WideShapes Go.ChangeAt Go.RowKit
attribute [local go_sem] Oper.semAt_some

/-- the words of one letter that the example has. -/
def oneL (s : ByteArray) : Bool := decide (s = ⟨#[117]⟩) || (decide (s = ⟨#[119]⟩) || (decide (s = ⟨#[120]⟩) || (decide (s = ⟨#[121]⟩) || decide (s = ⟨#[122]⟩))))
def WordOk : Prop := ∀ s, oneL s = true → ∀ w, Calls Tryz.prog 256 #[.string s] w fun e w' => e = .returned (.bool true) ∧ Below w.heap.size w w'
/-- a cause of the example's kind. -/
structure SmallC (c : Cs) : Prop where
  u : oneL c.unit = true
  n : ∀ r ∈ c.needs, oneL r.unit = true ∧ 0 ≤ r.code ∧ r.code ≤ 255
  x : ∀ s ∈ c.excl, oneL s = true
  pos : 0 < c.needs.length
  nl : c.needs.length ≤ 8
  xl : c.excl.length ≤ 8
theorem words_c (hW : WordOk) (l : List ByteArray) (A : Option Addr) (c : Nat) (w : World) (h : RdStr w w.heap.size A l) (hl : l.length ≤ 9223372036854775807) (hok : ∀ s ∈ l, oneL s = true) :
    Calls Tryz.prog 265 #[.slice A l.length c] w fun e w' => e = .returned (.bool true) ∧ Below w.heap.size w w' := by
  have hcon := containsStr48 313 #[] (fun _ => false) (enters_of Tryz.func313 (by kernel_rfl) rfl) l A c w (fun W s hs hB => by
    have hw := hW s (hok s hs) W
    go_enter Tryz.func313, Tryz.ntmps313
    go_wp2_with (go_at_call 256; refine hw.mono ?_; rintro e w' ⟨rfl, hb⟩)
    go_ret
    exact ⟨rfl, hb⟩) h hl
  rw [any_none (fun _ _ => rfl)] at hcon
  have Hcon := Lib.hid hcon
  clear hcon h hok
  go_enter Tryz.func265, Tryz.ntmps265
  go_wp2_with fail
  refine Hcon.out.mono ?_
  rintro e w1 ⟨rfl, hb1⟩
  go_wp2
  go_ret
  exact ⟨rfl, hb1⟩
set_option maxRecDepth 100000 in
theorem freport_c (hW : WordOk) (r : Rep) (w : World) (hu : oneL r.unit = true) (h0 : 0 ≤ r.code) (h1 : r.code ≤ 255) :
    Calls Tryz.prog 274 #[r.val] w fun e w' => e = .returned (.bool true) ∧ Below w.heap.size w w' := by
  have hw := hW r.unit hu (w.alloc (.cells #[.string r.unit, .int .i64 r.code] 32))
  have hbx := Blk.new w 32 #[.string r.unit, .int .i64 r.code]
  have hB1 : Below w.heap.size w (w.alloc (.cells #[.string r.unit, .int .i64 r.code] 32)) := (Below.refl _ _).alloc (Nat.le_refl _) _
  have hn := fun (W : World) => nums_c [r.code] (some ⟨W.heap.size, 0, none⟩) 1 (W.alloc (.cells #[.int .i64 r.code] 3)) (fun _ => ⟨W.heap.size, 0, rfl, by simp, fun i hi => by
    obtain rfl : i = 0 := by simp at hi; exact hi
    exact (Blk.new W 3 #[.int .i64 r.code]).cell 0⟩) (by simp) (fun x hx => by simp at hx; subst hx; exact ⟨h0, by omega⟩)
  have Hw := Lib.hid hw
  have Hn := Lib.hid hn
  have Hbx := Lib.hid hbx
  have HB1 := Lib.hid hB1
  clear hw hn hbx hB1 hu h0 h1
  dsimp only [Rep.val]
  go_enter Tryz.func274, Tryz.ntmps274
  go_wp2_with fail
  refine Hw.out.mono ?_
  rintro e w2 ⟨rfl, hb2⟩
  have c1 : w2.cell? ⟨w.heap.size, 1, none⟩ = some (.int .i64 r.code) := (Hbx.out.below hb2 (by simp)).cell 1
  have hs2 := HB1.out.size
  have HB2 := Lib.hid ((HB1.out.trans (hb2.mono HB1.out.size)))
  clear hb2
  go_wp2_with fail
  refine (Hn.out _).mono ?_
  rintro e w3 ⟨rfl, hb3⟩
  have HB3 := Lib.hid ((HB2.out.alloc HB2.out.size (.cells #[.int .i64 r.code] 3)).trans (hb3.mono (by have := HB2.out.size; simp; omega)))
  clear hb3
  go_wp2
  go_ret
  exact ⟨rfl, HB3.out⟩
theorem all_true {α : Type} {p : α → Bool} {l : List α} (h : ∀ x ∈ l, p x = true) : l.all p = true := List.all_eq_true.2 h
set_option maxRecDepth 100000 in
set_option maxHeartbeats 1000000 in
theorem fcause_c (hWo : WordOk) (x : CsV) (w : World) (hx : x.rd w w.heap.size) (hok : SmallC x.c) :
    Calls Tryz.prog 185 #[x.val] w fun e w' => e = .returned (.bool true) ∧ Below w.heap.size w w' := by
  obtain ⟨w1, hw1⟩ : ∃ w1, w1 = w.alloc (.cells #[.string x.c.unit, .slice x.n.a x.n.n x.n.c, .slice x.x.a x.x.n x.x.c] 29) := ⟨_, rfl⟩
  have hB1 : Below w.heap.size w w1 := by rw [hw1]; exact (Below.refl _ _).alloc (Nat.le_refl _) _
  have hbx : Blk w1 w.heap.size 29 #[.string x.c.unit, .slice x.n.a x.n.n x.n.c, .slice x.x.a x.x.n x.x.c] := by rw [hw1]; exact Blk.new w _ _
  have hx1 := hx.below hB1
  obtain ⟨i0, hi0, hz0, hz1, hz2⟩ := info_parts info9
  have hz1' : w1.heap.size = w.heap.size + 1 := by rw [hw1]; simp
  have hrd : Reads (w1.alloc (.cells #[.string x.c.unit] 9)) w1.heap.size 1 x.x.a x.x.n (x.c.excl.map Value.string) := by
    refine ⟨by rw [List.length_map, ← hx1.xl]; omega, fun hn => ?_⟩
    obtain ⟨b, o, e, hb, hc⟩ := hx1.x (by rw [← hx1.xl]; exact hn)
    exact ⟨_, e, hb, fun j u hu => (World.cell?_alloc_lt w1 _ _ (by rw [block_of_add]; exact hb)).trans (str_flat hc j u hu)⟩
  have hown : (w1.alloc (.cells #[.string x.c.unit] 9)).ownsRow (w.heap.size + 1) 9 1 (.slice (some ⟨w.heap.size + 1, 0, none⟩) 1 1) 1 [.string x.c.unit] := by
    rw [← hz1']; exact World.ownsRow_lit w1 #[.string x.c.unit] 1 (Nat.le_refl _) (by simp [maxLen]) rfl
  have hxl2 := hx.xl
  have hall := all_251 274 #[] (fun _ => true) (enters_of Tryz.func274 (by kernel_rfl) rfl) x.c.needs x.n.a x.n.c
  have hnl := hx.nl
  have Hw1 := Lib.hid hw1
  have HB1 := Lib.hid hB1
  have Hbx := Lib.hid hbx
  have Hx1 := Lib.hid hx1
  have Hrd := Lib.hid hrd
  have Hown := Lib.hid hown
  have Hok := Lib.hid hok
  have Hall := Lib.hid hall
  have Hnl := Lib.hid hnl
  have Hz := Lib.hid hz1'
  have hxm : x.x.n ≤ 8 := by have := hok.xl; omega
  have Hxl := Lib.hid hxl2
  have k2 : (w1.alloc (.cells #[.string x.c.unit] 9)).cell? ⟨w.heap.size, 2, none⟩ = some (.slice x.x.a x.x.n x.x.c) := (hbx.alloc _).cell 2
  clear hw1 hB1 hbx hx1 hrd hown hok hx hall hnl hz1' hxl2
  dsimp only [CsV.val]
  go_enter Tryz.func185, Tryz.ntmps185
  go_wp2_with (at_builtin; rw [← Hw1.out]; refine wpList_append_any _ rfl (.tmp 5) (.tmp 7) 24 rfl (w.heap.size + 1) 9 i0 (.string ⟨#[]⟩) 1 16 Tryz.underlying24 hi0 hz0 hz1 hz2 rfl (by decide) _ _ _ rfl Hown.out w1.heap.size x.x.a x.x.n x.x.c _ rfl Hrd.out ?c1 ?c2 ?c3 ?c4 ?_)
  case c1 => intro u hu; simp at hu; obtain ⟨s, _, rfl⟩ := hu; rfl
  case c2 => unfold maxLen; omega
  case c3 => omega
  case c4 => have := Hz.out; simp; omega
  intro v5 w5 hown5 hg5 _
  have hb5 : Below w1.heap.size w1 w5 := ((Below.refl _ w1).alloc (Nat.le_refl _) (.cells #[.string x.c.unit] 9)).grown hg5 (by simp) (fun g hg => by have := (Hown.out.lt g hg).1; have := Hz.out; omega)
  obtain ⟨A5, c5, rfl, _⟩ := own_caps hown5
  have e5 : 1 + x.x.n = (x.c.unit :: x.c.excl).length := by rw [Hxl.out]; simp; omega
  have hrd5 : RdStr w5 w5.heap.size A5 (x.c.unit :: x.c.excl) := by
    rw [e5] at hown5
    exact rdStr_of_own (l := x.c.unit :: x.c.excl) hown5
  have hws := words_c hWo (x.c.unit :: x.c.excl) A5 c5 w5 hrd5 (by have := Hok.out.xl; simp; omega) (fun s hs => by
    rcases List.mem_cons.1 hs with rfl | hs
    · exact Hok.out.u
    · exact Hok.out.x s hs)
  rw [← e5] at hws
  have Hws := Lib.hid hws
  have Hb5 := Lib.hid hb5
  clear hws hrd5 hown5 hg5 hb5 e5
  go_wp2_with fail
  refine Hws.out.mono ?_
  rintro e w6 ⟨rfl, hb6⟩
  have hB6 := Hb5.out.trans (hb6.mono Hb5.out.size)
  have hbx6 := Hbx.out.below hB6 Hbx.out.lt
  have k1 : w6.cell? ⟨w.heap.size, 1, none⟩ = some (.slice x.n.a x.n.n x.n.c) := hbx6.cell 1
  have hd : decide ((x.n.n : Int) > 0) = true := by have := Hok.out.pos; have := Hnl.out; simp; omega
  have hd2 : 0 < x.n.n := by have := Hok.out.pos; have := Hnl.out; omega
  have hal := Hall.out w6 (fun W r hr hW => by
    obtain ⟨q1, q2, q3⟩ := Hok.out.n r hr
    simpa using freport_c hWo r W q1 q2 q3) ((Hx1.out.below hB6).n) (by have := Hok.out.nl; omega)
  rw [← Hnl.out, all_true (fun _ _ => rfl)] at hal
  have Hal := Lib.hid hal
  have HB6 := Lib.hid (HB1.out.trans (hB6.mono HB1.out.size))
  clear hal hb6 hB6 hbx6
  go_wp2_with fail
  refine Hal.out.mono ?_
  rintro e w7 ⟨rfl, hb7⟩
  have HB7 := Lib.hid (HB6.out.trans (hb7.mono HB6.out.size))
  clear hb7
  go_wp2_with fail
  go_ret
  exact ⟨rfl, HB7.out⟩
end Go.Proofs.YtknojjlfgjkbiaaGreatDoor
/- lex.Lex on a word of one letter; format.word. -/
namespace Go.Proofs.YtknojjlfgjkbiaaGreatDoor
open Go.ChangeShapes Go.WideShapes Go.ChangeAt Go.RowKit
attribute [local go_sem] Oper.semAt_some

theorem info301 : (Tryz.prog.info? 318).map (fun i => (i.zero, i.size, i.bytes)) = some (some (.agg #[.int .u8 0, .string ⟨#[]⟩, .int .i64 0]), 3, 32) := by kernel_rfl
theorem all310 (g : Nat) (w : World) : Calls Tryz.prog 332 #[.pointer (some ⟨g, 0, none⟩)] w fun e w' => e = .returned (.func (.func 347) #[] #[.pointer (some ⟨w.heap.size, 0, none⟩)]) ∧ w' = w.alloc (.cells #[.pointer (some ⟨g, 0, none⟩)] 339) := by
  go_enter Tryz.func332, Tryz.ntmps332
  go_wp2
  go_ret
  exact ⟨rfl, rfl⟩
set_option maxRecDepth 100000 in
set_option maxHeartbeats 2000000 in
theorem lexOne_c (s : ByteArray) (b : Int) (w : World) (hl : LetB s b) : Calls Tryz.prog 303 #[.string s] w fun e w' => ∃ br c, e = .returned (.tuple #[.slice (some ⟨br, 0, none⟩) 1 c, .int .i64 0, .int .i64 0]) ∧
    w'.cell? ⟨br, 0, none⟩ = some (.int .u8 1) ∧ w'.cell? ⟨br, 1, none⟩ = some (.string s) ∧ Below w.heap.size w w' := by
  obtain ⟨w0, hw0⟩ : ∃ w0, w0 = ((w.alloc (.cells #[.slice none 0 0] 313)).alloc (.cells #[.int .i64 0] 3)).alloc (.cells #[.int .i64 0] 33) := ⟨_, rfl⟩
  have hB0 : Below w.heap.size w w0 := by rw [hw0]; exact (((Below.refl _ w).alloc (Nat.le_refl _) _).alloc (by simp) _).alloc (by simp; omega) _
  have r2 : Blk w0 w.heap.size 313 #[.slice none 0 0] := by rw [hw0]; exact ((Blk.new w _ _).alloc _).alloc _
  have r3 : Blk w0 (w.heap.size + 1) 3 #[.int .i64 0] := by rw [hw0]; exact (blk_at' (w.alloc (.cells #[.slice none 0 0] 313)) (w.heap.size + 1) 3 _ (by simp)).alloc _
  have r4 : Blk w0 (w.heap.size + 2) 33 #[.int .i64 0] := by rw [hw0]; exact blk_at' ((w.alloc (.cells #[.slice none 0 0] 313)).alloc (.cells #[.int .i64 0] 3)) (w.heap.size + 2) 33 _ (by simp)
  have hz0 : w0.heap.size = w.heap.size + 3 := by rw [hw0]; simp
  have hd : decide ((s.size : Int) > 65536) = false := by rw [hl.size]; rfl
  have Hst := Lib.hid (starts_c w0)
  have Hw0 := Lib.hid hw0
  have HB0 := Lib.hid hB0
  have R2 := Lib.hid r2
  have R3 := Lib.hid r3
  have R4 := Lib.hid r4
  have Hl := Lib.hid hl
  have Hz0 := Lib.hid hz0
  clear hw0 hB0 r2 r3 r4 hl hz0
  refine (callsIn_wide (n := 9)).1 ?_
  refine callsIn_of_wp_marks Tryz.func303 rfl trivial ?_ rfl
  simp only [Tryz.ntmps303, List.size_toArray, List.length_cons, List.length_nil, Nat.reduceAdd, Nat.reduceSub, Array.replicate_succ, Array.replicate_zero, List.push_toArray, List.append_toArray, List.nil_append, List.cons_append]
  refine wpIn_wide.2 ?_
  go_wp2_with fail
  rw [← Hw0.out]
  refine Hst.out.mono ?_
  rintro e w1 ⟨v1, f2, lb2, f3, lb3, rfl, ⟨Be, rfl, htab⟩, hb1⟩
  obtain ⟨w2, hw2⟩ : ∃ w2, w2 = ((w1.alloc (.cells #[.string s, .int .i64 0, .nilFunc, .func (.func 358) #[] #[.pointer (some ⟨Be, 0, none⟩)], .func f2 #[] lb2, .func f3 #[] lb3] 345)).alloc (.cells #[.slice none 0 0] 313)).alloc (.cells #[.pointer (some ⟨w1.heap.size, 0, none⟩)] 339) := ⟨_, rfl⟩
  have hB2 : Below w1.heap.size w1 w2 := by rw [hw2]; exact (((Below.refl _ w1).alloc (Nat.le_refl _) _).alloc (by simp) _).alloc (by simp; omega) _
  have hsc : ScB w2 w1.heap.size s 0 .nilFunc (.func (.func 358) #[] #[.pointer (some ⟨Be, 0, none⟩)]) (.func f2 #[] lb2) (.func f3 #[] lb3) := by rw [hw2]; exact ((Blk.new w1 _ _).alloc _).alloc _
  have hob : Blk w2 (w1.heap.size + 1) 313 #[.slice none 0 0] := by rw [hw2]; exact (blk_at' (w1.alloc (.cells #[.string s, .int .i64 0, .nilFunc, .func (.func 358) #[] #[.pointer (some ⟨Be, 0, none⟩)], .func f2 #[] lb2, .func f3 #[] lb3] 345)) (w1.heap.size + 1) 313 _ (by simp)).alloc _
  have hbb : Blk w2 (w1.heap.size + 2) 339 #[.pointer (some ⟨w1.heap.size, 0, none⟩)] := by rw [hw2]; exact blk_at' ((w1.alloc (.cells #[.string s, .int .i64 0, .nilFunc, .func (.func 358) #[] #[.pointer (some ⟨Be, 0, none⟩)], .func f2 #[] lb2, .func f3 #[] lb3] 345)).alloc (.cells #[.slice none 0 0] 313)) (w1.heap.size + 2) 339 _ (by simp)
  have hz2 : w2.heap.size = w1.heap.size + 3 := by rw [hw2]; simp
  have hit := iter_c w1.heap.size (w1.heap.size + 2) Be s b f2 f3 lb2 lb3 w2 Hl.out ((htab b Hl.out.lo Hl.out.hi).next hB2) hsc hbb (w1.heap.size + 1) (by omega) (by omega)
  have Hit := Lib.hid hit
  have Hob := Lib.hid hob
  have Hw2 := Lib.hid hw2
  have Hz2 := Lib.hid hz2
  have Hb1 := Lib.hid hb1
  have HB2 := Lib.hid hB2
  clear htab hb1 hw2 hB2 hsc hob hbb hz2 hit Hst
  go_wp2_with (go_at_call 332; refine (all310 _ _).mono ?_; rintro e w' ⟨rfl, hw'⟩)
  rw [← Hw2.out]
  clear hw'
  refine (wpIn_wide (n := 9)).1 ?_
  have hz2 : w1.heap.size + 3 ≤ w2.heap.size := by have := Hz2.out; omega
  have hz2b : w2.heap.size ≤ w1.heap.size + 3 := by have := Hz2.out; omega
  have hz0 : w.heap.size + 3 ≤ w0.heap.size := by have := Hz0.out; omega
  have hs1 := Hb1.out.size
  refine range_one (gf := 347) (gm := w1.heap.size) (go := w1.heap.size + 1) (lb := #[.pointer (some ⟨w1.heap.size + 1 + 1, 0, none⟩)]) (enc := #[.agg #[.int .u8 1, .string s, .int .i64 0], .int .i64 0]) (by omega) rfl (enters_of Tryz.func347 (by kernel_rfl) rfl) rfl Hit.out
    (fun a' W => ∃ Bx, w2.heap.size ≤ Bx ∧ Blk W Bx 318 #[.int .u8 1, .string s, .int .i64 0] ∧ Blk W (w1.heap.size + 1) 313 #[.slice none 0 0] ∧ Gr (fun k => k = w1.heap.size ∨ k = w1.heap.size + 1) w2 W ∧ a' = { tmps := #[.string s, undef, .pointer (some ⟨w.heap.size, 0, none⟩), .pointer (some ⟨w.heap.size + 1, 0, none⟩), .pointer (some ⟨w.heap.size + 1 + 1, 0, none⟩), .pointer (some ⟨w1.heap.size, 0, none⟩), .pointer (some ⟨w1.heap.size + 1, 0, none⟩), .pointer (some ⟨Bx, 0, none⟩), .int .i64 0, .string s, .int .i64 s.size, .bool false, .string s, .agg #[.string s, .int .i64 0], .agg #[.nilFunc, .func (.func 358) #[] #[.pointer (some ⟨Be, 0, none⟩)], .func f2 #[] lb2, .func f3 #[] lb3], .agg #[.string s, .int .i64 0, .nilFunc, .func (.func 358) #[] #[.pointer (some ⟨Be, 0, none⟩)], .func f2 #[] lb2, .func f3 #[] lb3], .pointer (some ⟨w1.heap.size, 0, none⟩), .pointer (some ⟨w1.heap.size, 0, none⟩), .func (.func 347) #[] #[.pointer (some ⟨w1.heap.size + 1 + 1, 0, none⟩)], .agg #[.int .u8 1, .string s, .int .i64 0], .int .i64 0, undef, undef, undef, undef, undef, undef, undef, undef, undef, undef], defers := [] })
    (fun _ W => ∃ A c, Blk W (w1.heap.size + 1) 313 #[.slice A 1 c] ∧ W.ownsRow w2.heap.size 318 3 (.slice A 1 c) 1 [.int .u8 1, .string s, .int .i64 0] ∧ Gr (fun k => k = w1.heap.size ∨ k = w1.heap.size + 1) w2 W)
    ?ax ?post ?assign ?body ?done
  case ax =>
    rintro l a' W o o' hl ho hc ⟨Bx, h1, h2, h3, h4, h5⟩
    have hne : Bx ≠ l := fun e => by subst e; rw [show W.heap[Bx]? = _ from h2] at ho; cases ho; cases hc
    exact ⟨Bx, h1, (putObj_gr W l o').blk h2 hne, (putObj_gr W l o').blk h3 (by omega), h4.trans' (putObj_gr W l o') (fun j hj e => by omega), h5⟩
  case post =>
    rintro l a' W o o' hl ho hc ⟨A, c, h1, h2, h3⟩
    exact ⟨A, c, (putObj_gr W l o').blk h1 (by omega), own_gr h2 (putObj_gr W l o') (fun k hk e => by have := own_cells h2 k o hk (e ▸ ho); rw [hc] at this; cases this), h3.trans' (putObj_gr W l o') (fun j hj e => by omega)⟩
  case assign =>
    intro l W K hsz hsame hos htp hou hK
    have hgr : Gr (fun k => k = w1.heap.size ∨ k = w1.heap.size + 1) w2 W := ⟨hos, htp, hou, by omega, fun k hk hn => hsame k hk (fun e => hn (.inl e))⟩
    have hob : Blk W (w1.heap.size + 1) 313 #[.slice none 0 0] := (hsame _ (by omega) (by omega)).trans Hob.out
    have Hgr := Lib.hid hgr
    have Hob2 := Lib.hid hob
    clear hgr hob hsame
    gi_wp2
    exact hK _ _ ((KeepsOthers.alloc _ _).from _) (fun k hk => Below.heap_alloc W _ k (by omega)) ⟨W.heap.size, by omega, Blk.new W _ _, Hob2.out.alloc _, Hgr.out.trans (Gr.alloc _ _ _), rfl⟩
  case body =>
    rintro l a' W ⟨Bx, hBx, hbx, hob, hgr, rfl⟩
    have c6 : W.cell? ⟨w1.heap.size + 1, 0, none⟩ = some (.slice none 0 0) := hob.cell 0
    have c0 : W.cell? ⟨Bx, 0, none⟩ = some (.int .u8 1) := hbx.cell 0
    have c1 : W.cell? ⟨Bx, 1, none⟩ = some (.string s) := hbx.cell 1
    have c2 : W.cell? ⟨Bx, 2, none⟩ = some (.int .i64 0) := hbx.cell 2
    obtain ⟨i0, hi0, hy0, hy1, hy2⟩ := info_parts info301
    have hsz := hgr.size
    have Hgr := Lib.hid hgr
    have Hob2 := Lib.hid hob
    clear hgr hob hbx
    gi_wp2_with (gi_at_builtin; refine wpListIn_append_own _ rfl _ _ 313 rfl w2.heap.size 318 i0 (.agg #[.int .u8 0, .string ⟨#[]⟩, .int .i64 0]) 3 32 Tryz.underlying313 hi0 hy0 hy1 hy2 rfl (by decide) _ _ _ rfl (World.ownsRow_nil _ _ _ _) ⟨W.heap.size, 0, none⟩ 1 1 [.int .u8 1, .string s, .int .i64 0] rfl rfl ?c1 ?c2 ?c3 ?c4 ?c5 ?_)
    case c1 =>
      intro j u' hj
      rw [addr_add_none, Nat.zero_add, (Blk.new W 318 #[.int .u8 1, .string s, .int .i64 0]).cell j]
      simpa using hj
    case c2 => intro u' hu'; simp at hu'; rcases hu' with rfl | rfl | rfl <;> rfl
    case c3 => simp [maxLen]
    case c4 => omega
    case c5 => simp; omega
    intro v5 wo hown5 hg5 _
    have hown5' : wo.ownsRow w2.heap.size 318 3 v5 1 [.int .u8 1, .string s, .int .i64 0] := hown5
    obtain ⟨A5, c5, rfl, _⟩ := own_caps hown5'
    have hbo : Below W.heap.size W wo := ((Below.refl _ W).alloc (Nat.le_refl _) (.cells #[.int .u8 1, .string s, .int .i64 0] 318)).grown hg5 (by simp) (fun k e => by cases e)
    have hobo := Hob2.out.below hbo Hob2.out.lt
    have d0 : wo.cell? ⟨w1.heap.size + 1, 0, none⟩ = some (.slice none 0 0) := hobo.cell 0
    have df : wo.frozen? ⟨w1.heap.size + 1, 0, none⟩ = false := hobo.frozen 0
    have hS := Gr.setCell (X := (· = w1.heap.size + 1)) wo ⟨w1.heap.size + 1, 0, none⟩ (.slice A5 1 c5) rfl
    have hown6 := own_gr hown5' hS (fun k hk e => by have := (hown5'.lt k hk).1; omega)
    have hob6 : Blk (wo.setCell ⟨w1.heap.size + 1, 0, none⟩ (.slice A5 1 c5)) (w1.heap.size + 1) 313 #[.slice A5 1 c5] := by simpa using hobo.set_ 0 (.slice A5 1 c5)
    have hgr6 : Gr (fun k => k = w1.heap.size ∨ k = w1.heap.size + 1) w2 (wo.setCell ⟨w1.heap.size + 1, 0, none⟩ (.slice A5 1 c5)) := (Hgr.out.trans (Gr.of_below hbo)).trans' hS (fun k hk e => .inr e)
    have hko : KeepsOthers W (wo.setCell ⟨w1.heap.size + 1, 0, none⟩ (.slice A5 1 c5)) := (keeps_below hbo).trans (keepsO_set hobo _)
    have hsm : ∀ k, k < w2.heap.size → k ≠ w1.heap.size + 1 → (wo.setCell ⟨w1.heap.size + 1, 0, none⟩ (.slice A5 1 c5)).heap[k]? = W.heap[k]? := fun k hk hn => (hS.block k (by have := hbo.size; omega) hn).trans (hbo.block k (by omega))
    have HR := Lib.hid (And.intro (hko.from w2.heap.size) (And.intro hsm (And.intro hob6 (And.intro hown6 hgr6))))
    clear hown5 hown5' hg5 hbo hobo hS hown6 hob6 hgr6 hko hsm
    gi_wp2
    exact ⟨HR.out.1, HR.out.2.1, A5, c5, HR.out.2.2⟩
  case done =>
    rintro D a3 W2 W3 hD ⟨A, c, hbx, hown, hgr⟩ hG hk
    have hbx3 := hG.blk hbx (by omega)
    have hown3 := own_gr hown hG (fun k hk e => by have := (hown.lt k hk).1; omega)
    have hall : Gr (fun k => k = w1.heap.size ∨ k = w1.heap.size + 1) w2 W3 := hgr.trans' hG (fun k hk e => .inl e)
    have hb2w : ∀ k, k < w1.heap.size → W3.heap[k]? = w1.heap[k]? := fun k hk => (hall.block k (by omega) (by omega)).trans (HB2.out.block k hk)
    have q2 : Blk W3 w.heap.size 313 #[.slice none 0 0] := (hb2w _ (by omega)).trans (R2.out.below Hb1.out (by omega))
    have q3 : Blk W3 (w.heap.size + 1) 3 #[.int .i64 0] := (hb2w _ (by omega)).trans (R3.out.below Hb1.out (by omega))
    have q4 : Blk W3 (w.heap.size + 2) 33 #[.int .i64 0] := (hb2w _ (by omega)).trans (R4.out.below Hb1.out (by omega))
    have hBw : Below w.heap.size w W3 := ⟨hall.os.trans (HB2.out.os.trans (Hb1.out.os.trans HB0.out.os)), hall.tape.trans (HB2.out.tape.trans (Hb1.out.tape.trans HB0.out.tape)), hall.output.trans (HB2.out.output.trans (Hb1.out.output.trans HB0.out.output)), by have := hall.size; omega, fun k hk => (hb2w k (by omega)).trans ((Hb1.out.block k (by omega)).trans (HB0.out.block k hk))⟩
    have e6 : W3.cell? ⟨w1.heap.size + 1, 0, none⟩ = some (.slice A 1 c) := hbx3.cell 0
    have e2 : W3.cell? ⟨w.heap.size, 0, none⟩ = some (.slice none 0 0) := q2.cell 0
    have e3 : W3.cell? ⟨w.heap.size + 1, 0, none⟩ = some (.int .i64 0) := q3.cell 0
    have e4 : W3.cell? ⟨w.heap.size + 2, 0, none⟩ = some (.int .i64 0) := q4.cell 0
    have f2' : W3.frozen? ⟨w.heap.size, 0, none⟩ = false := q2.frozen 0
    have f3' : W3.frozen? ⟨w.heap.size + 1, 0, none⟩ = false := q3.frozen 0
    have f4' : W3.frozen? ⟨w.heap.size + 2, 0, none⟩ = false := q4.frozen 0
    obtain ⟨br, cap, hv, hbr, hlt⟩ := hown3.form (by omega)
    have hA : A = some ⟨br, 0, none⟩ := by injection hv
    subst hA
    have g0 := hown3.cells (g := br) rfl 0 (.int .u8 1) rfl
    have g1 := hown3.cells (g := br) rfl 1 (.string s) rfl
    have hbr2 : w2.heap.size ≤ br := (hown3.lt br rfl).1
    have hDlt : D < W3.heap.size := by
      rcases Nat.lt_or_ge D W3.heap.size with h | h
      · exact h
      · rw [Array.getElem?_eq_none h] at hk; cases hk
    have Hk := Lib.hid hk
    have Hq2 := Lib.hid q2
    have Hq3 := Lib.hid q3
    have Hq4 := Lib.hid q4
    have HBw := Lib.hid hBw
    have Hg0 := Lib.hid g0
    have Hg1 := Lib.hid g1
    clear hbx hown hgr hG hk hbx3 hown3 hall hb2w q2 q3 q4 hBw g0 g1 hv
    go_wp2_with fail
    have hz := ((Hq2.out.set_ 0 (.slice (some ⟨br, 0, none⟩) 1 c)).far (p := ⟨w.heap.size + 1, 0, none⟩) (by show w.heap.size ≠ w.heap.size + 1; omega) (.int .i64 0)).far (p := ⟨w.heap.size + 2, 0, none⟩) (by show w.heap.size ≠ w.heap.size + 2; omega) (.int .i64 0)
    have hz3 := ((Hq3.out.far (p := ⟨w.heap.size, 0, none⟩) (by show w.heap.size + 1 ≠ w.heap.size; omega) (.slice (some ⟨br, 0, none⟩) 1 c)).set_ 0 (.int .i64 0)).far (p := ⟨w.heap.size + 2, 0, none⟩) (by show w.heap.size + 1 ≠ w.heap.size + 2; omega) (.int .i64 0)
    have hz4 := ((Hq4.out.far (p := ⟨w.heap.size, 0, none⟩) (by show w.heap.size + 2 ≠ w.heap.size; omega) (.slice (some ⟨br, 0, none⟩) 1 c)).far (p := ⟨w.heap.size + 1, 0, none⟩) (by show w.heap.size + 2 ≠ w.heap.size + 1; omega) (.int .i64 0)).set_ 0 (.int .i64 0)
    have hB4 : Below w.heap.size w (((W3.setCell ⟨w.heap.size, 0, none⟩ (.slice (some ⟨br, 0, none⟩) 1 c)).setCell ⟨w.heap.size + 1, 0, none⟩ (.int .i64 0)).setCell ⟨w.heap.size + 2, 0, none⟩ (.int .i64 0)) := ((HBw.out.setCell (p := ⟨w.heap.size, 0, none⟩) (Nat.le_refl _) _).setCell (p := ⟨w.heap.size + 1, 0, none⟩) (by show w.heap.size ≤ w.heap.size + 1; omega) _).setCell (p := ⟨w.heap.size + 2, 0, none⟩) (by show w.heap.size ≤ w.heap.size + 2; omega) _
    have hfar : ∀ k, w.heap.size + 3 ≤ k → (((W3.setCell ⟨w.heap.size, 0, none⟩ (.slice (some ⟨br, 0, none⟩) 1 c)).setCell ⟨w.heap.size + 1, 0, none⟩ (.int .i64 0)).setCell ⟨w.heap.size + 2, 0, none⟩ (.int .i64 0)).heap[k]? = W3.heap[k]? := fun k hk =>
      (Below.heap_setCell _ ⟨w.heap.size + 2, 0, none⟩ _ k (by show k ≠ w.heap.size + 2; omega)).trans ((Below.heap_setCell _ ⟨w.heap.size + 1, 0, none⟩ _ k (by show k ≠ w.heap.size + 1; omega)).trans (Below.heap_setCell _ ⟨w.heap.size, 0, none⟩ _ k (by show k ≠ w.heap.size; omega)))
    have hsz4 : (((W3.setCell ⟨w.heap.size, 0, none⟩ (.slice (some ⟨br, 0, none⟩) 1 c)).setCell ⟨w.heap.size + 1, 0, none⟩ (.int .i64 0)).setCell ⟨w.heap.size + 2, 0, none⟩ (.int .i64 0)).heap.size = W3.heap.size := by simp [World.setCell]
    change bodyPostM Fence.wide 9 Tryz.prog Tryz.f303 _ _ _ (((W3.setCell ⟨w.heap.size, 0, none⟩ (.slice (some ⟨br, 0, none⟩) 1 c)).setCell ⟨w.heap.size + 1, 0, none⟩ (.int .i64 0)).setCell ⟨w.heap.size + 2, 0, none⟩ (.int .i64 0))
    generalize (((W3.setCell ⟨w.heap.size, 0, none⟩ (.slice (some ⟨br, 0, none⟩) 1 c)).setCell ⟨w.heap.size + 1, 0, none⟩ (.int .i64 0)).setCell ⟨w.heap.size + 2, 0, none⟩ (.int .i64 0)) = W4 at *
    have hrow : W4.heap[br]? = W3.heap[br]? := hfar br (by omega)
    refine leaves_marks [D] W4 D (by simp) (fun E hE => by simp at hE; subst hE; exact ⟨Nat.le_refl _, (hfar E (by omega)).trans Hk.out⟩) fun W' hSh => ?_
    have z0 : W'.cell? ⟨w.heap.size, 0, none⟩ = some (.slice (some ⟨br, 0, none⟩) 1 c) := (Blk.below hz hSh.below (by omega)).cell 0
    have z3 : W'.cell? ⟨w.heap.size + 1, 0, none⟩ = some (.int .i64 0) := (Blk.below hz3 hSh.below (by omega)).cell 0
    have z4 : W'.cell? ⟨w.heap.size + 2, 0, none⟩ = some (.int .i64 0) := (Blk.below hz4 hSh.below (by omega)).cell 0
    have hcell : ∀ o (v : Value), W3.cell? ⟨br, o, none⟩ = some v → W'.cell? ⟨br, o, none⟩ = some v := fun o v hv => by
      have h4 : W4.cell? ⟨br, o, none⟩ = some v := (World.cell?_of_block hrow).trans hv
      obtain ⟨ob, ho, hcl⟩ := cells_of_cell h4
      exact (World.cell?_of_block ((hSh.cells _ _ ho hcl).trans ho.symm)).trans h4
    have g0 := Hg0.out
    have g1 := Hg1.out
    rw [add_none] at g0 g1
    exact ⟨.tuple #[.slice (some ⟨br, 0, none⟩) 1 c, .int .i64 0, .int .i64 0], by simp [results, Tryz.f303, go_sem, z0, z3, z4], br, c, rfl, hcell _ _ (by simpa using g0), hcell _ _ (by simpa using g1), hB4.trans (hSh.below.mono (by omega))⟩
end Go.Proofs.YtknojjlfgjkbiaaGreatDoor
/- sameTexts and SameReports. -/
namespace Go.Proofs.YtknojjlfgjkbiaaGreatDoor
open Go.ChangeShapes Go.WideShapes Go.ChangeAt Go.RowKit
attribute [local go_sem] Oper.semAt_some

def eqL {α : Type} [DecidableEq α] (a b : List α) : Bool := decide (a = b)
theorem eqL_true {α : Type} [DecidableEq α] {a b : List α} (h : a = b) : eqL a b = true := decide_eq_true h
theorem eqL_false {α : Type} [DecidableEq α] {a b : List α} (h : a ≠ b) : eqL a b = false := decide_eq_false h
theorem eqL_len {α : Type} [DecidableEq α] {a b : List α} (h : ((a.length : Int) != b.length) = true) : eqL a b = false := eqL_false fun e => by rw [e] at h; simp at h
theorem eqL_all {α : Type} [DecidableEq α] {a b : List α} (hl : a.length = b.length) (h : ∀ j (h1 : j < a.length) (h2 : j < b.length), a[j] = b[j]) : eqL a b = true := eqL_true (List.ext_getElem hl h)
theorem eqL_at {α : Type} [DecidableEq α] {a b : List α} {k : Nat} (h1 : k < a.length) (h2 : k < b.length) (h : a[k] ≠ b[k]) : eqL a b = false := eqL_false fun e => h (by subst e; rfl)

set_option maxRecDepth 100000 in
theorem sameTexts_c (a b : List ByteArray) (A1 A2 : Option Addr) (c1 c2 : Nat) (w : World) (ha : RdStr w w.heap.size A1 a) (hb : RdStr w w.heap.size A2 b) (hl : a.length ≤ 100000) :
    Calls Tryz.prog 16 #[.slice A1 a.length c1, .slice A2 b.length c2] w fun e w' => e = .returned (.bool (eqL a b)) ∧ Below w.heap.size w w' := by
  have Ha := Lib.hid ha
  have Hb := Lib.hid hb
  clear ha hb
  cases hne : ((a.length : Int) != b.length) with
  | true =>
    have Hr := Lib.hid (eqL_len hne)
    go_enter Tryz.func16, Tryz.ntmps16
    go_wp2_with fail
    go_ret
    exact ⟨ret_bool Hr.out.symm, Below.refl _ _⟩
  | false =>
    have hab : a.length = b.length := by have : (a.length : Int) = b.length := by simpa using hne
                                         omega
    have Hab := Lib.hid hab
    clear hab
    go_enter Tryz.func16, Tryz.ntmps16
    go_wp2_with fail
    go_loopw [5] (fun t wr => ∃ k : Nat, k ≤ a.length ∧ t = .int .i64 k ∧ Below w.heap.size w wr ∧ Hid (∀ j (h1 : j < a.length) (h2 : j < b.length), j < k → a[j] = b[j])) (fun t wr => a.length - (intOf t).toNat)
    case atStart => exact ⟨0, Nat.zero_le _, rfl, Below.refl _ _, fun j _ _ h => absurd h (by omega)⟩
    case round =>
      obtain ⟨k, hk, rfl, hB, hall⟩ := hrel
      by_cases hlt : k < a.length
      · have hlt2 : k < b.length := by have := Hab.out; omega
        obtain ⟨g1, o1, rfl, hg1, d1⟩ := (Ha.out.keep hB).at_ hlt
        obtain ⟨g2, o2, rfl, hg2, d2⟩ := (Hb.out.keep hB).at_ hlt2
        have hmiss := eqL_at hlt hlt2
        have Hmiss := Lib.hid hmiss
        have hnx : a[k] = b[k] → ∀ j (h1 : j < a.length) (h2 : j < b.length), j < k + 1 → a[j] = b[j] := fun e j h1 h2 hj => by
          by_cases ej : j = k
          · subst ej; exact e
          · exact hall.out j h1 h2 (by omega)
        have Hnx := Lib.hid hnx
        have HB := Lib.hid hB
        clear hmiss hnx hall hB
        generalize a[k] = x at *
        generalize b[k] = y at *
        by_cases e : x = y
        · have he := str_eq e
          have hn := Lib.hid (Hnx.out e)
          clear Hnx Hmiss e
          go_wp2_with fail
          go_quiet (fail)
          go_wp2_with fail
          go_roundw
          case rel => exact ⟨k + 1, by omega, by go_num, only_below HB.out, hn⟩
          case measure => simp [intOf]; omega
        · have he := str_ne e
          have hn := Lib.hid (Hmiss.out e)
          clear Hnx Hmiss e
          go_wp2_with fail
          go_quiet (fail)
          go_wp2_with fail
          go_ret
          exact ⟨ret_bool hn.out.symm, only_below HB.out⟩
      · have hn := Lib.hid (eqL_all Hab.out fun j h1 h2 => hall.out j h1 h2 (by omega))
        clear hall
        go_wp2_with fail
        go_ret
        exact ⟨ret_bool hn.out.symm, hB⟩
theorem rep_neq (r x : Rep) (W : World) : (binOp .neq 32 (.agg #[.string r.unit, .int .i64 r.code]) (.agg #[.string x.unit, .int .i64 x.code])).run Tryz.prog W = .ok (.bool (!decide (r = x))) W := by
  have h := rep_eql r x W
  rw [run_eql_struct] at h
  rw [run_neq_struct]
  generalize (Op.equalIn 10000 32 (.agg #[.string r.unit, .int .i64 r.code]) (.agg #[.string x.unit, .int .i64 x.code])).run Tryz.prog W = q at *
  cases q with
  | ok v w' =>
    simp only [Result.andThen_ok] at h ⊢
    obtain ⟨h1, h2⟩ := ok_inj h
    injection h1 with h1
    rw [h1, h2]
  | halt x w' => cases h
theorem rep_guardN (r x : Rep) (a b : Operand) (W : World) : (eqGuard .neq 32 a b (.agg #[.string r.unit, .int .i64 r.code]) (.agg #[.string x.unit, .int .i64 x.code])).run Tryz.prog W = .ok () W := run_eqGuard_agg W .neq 32 a b _ _ (by kernel_rfl)
set_option maxRecDepth 100000 in
theorem sameReports_c (a b : List Rep) (A1 A2 : Option Addr) (c1 c2 : Nat) (w : World) (ha : RdRep w w.heap.size A1 a) (hb : RdRep w w.heap.size A2 b) (hl : a.length ≤ 100000) :
    Calls Tryz.prog 17 #[.slice A1 a.length c1, .slice A2 b.length c2] w fun e w' => e = .returned (.bool (eqL a b)) ∧ Below w.heap.size w w' := by
  have Ha := Lib.hid ha
  have Hb := Lib.hid hb
  clear ha hb
  cases hne : ((a.length : Int) != b.length) with
  | true =>
    have Hr := Lib.hid (eqL_len hne)
    go_enter Tryz.func17, Tryz.ntmps17
    go_wp2_with fail
    go_ret
    exact ⟨ret_bool Hr.out.symm, Below.refl _ _⟩
  | false =>
    have hab : a.length = b.length := by have : (a.length : Int) = b.length := by simpa using hne
                                         omega
    have Hab := Lib.hid hab
    clear hab
    go_enter Tryz.func17, Tryz.ntmps17
    go_wp2_with fail
    go_loopw [5] (fun t wr => ∃ k : Nat, k ≤ a.length ∧ t = .int .i64 k ∧ Below w.heap.size w wr ∧ Hid (∀ j (h1 : j < a.length) (h2 : j < b.length), j < k → a[j] = b[j])) (fun t wr => a.length - (intOf t).toNat)
    case atStart => exact ⟨0, Nat.zero_le _, rfl, Below.refl _ _, fun j _ _ h => absurd h (by omega)⟩
    case round =>
      obtain ⟨k, hk, rfl, hB, hall⟩ := hrel
      by_cases hlt : k < a.length
      · have hlt2 : k < b.length := by have := Hab.out; omega
        obtain ⟨g1, o1, rfl, hg1, hc1⟩ := (Ha.out.keep hB) (by omega)
        obtain ⟨g2, o2, rfl, hg2, hc2⟩ := (Hb.out.keep hB) (by omega)
        obtain ⟨d1, d2⟩ := hc1 k hlt
        obtain ⟨d3, d4⟩ := hc2 k hlt2
        have hq := fun W => rep_neq a[k] b[k] W
        have hg := fun x y W => rep_guardN a[k] b[k] x y W
        clear hc1 hc2
        have hmiss := eqL_at hlt hlt2
        have Hmiss := Lib.hid hmiss
        have hnx : a[k] = b[k] → ∀ j (h1 : j < a.length) (h2 : j < b.length), j < k + 1 → a[j] = b[j] := fun e j h1 h2 hj => by
          by_cases ej : j = k
          · subst ej; exact e
          · exact hall.out j h1 h2 (by omega)
        have Hnx := Lib.hid hnx
        have HB := Lib.hid hB
        clear hmiss hnx hall hB
        generalize a[k] = x at *
        generalize b[k] = y at *
        by_cases e : x = y
        · have he : decide (x = y) = true := decide_eq_true e
          rw [he] at hq
          have hn := Lib.hid (Hnx.out e)
          clear Hnx Hmiss e he
          go_wp2_with fail
          go_quiet (fail)
          go_wp2_with fail
          go_roundw
          case rel => exact ⟨k + 1, by omega, by go_num, only_below HB.out, hn⟩
          case measure => simp [intOf]; omega
        · have he : decide (x = y) = false := decide_eq_false e
          rw [he] at hq
          have hn := Lib.hid (Hmiss.out e)
          clear Hnx Hmiss e he
          go_wp2_with fail
          go_quiet (fail)
          go_wp2_with fail
          go_ret
          exact ⟨ret_bool hn.out.symm, only_below HB.out⟩
      · have hn := Lib.hid (eqL_all Hab.out fun j h1 h2 => hall.out j h1 h2 (by omega))
        clear hall
        go_wp2_with fail
        go_ret
        exact ⟨ret_bool hn.out.symm, hB⟩
end Go.Proofs.YtknojjlfgjkbiaaGreatDoor
