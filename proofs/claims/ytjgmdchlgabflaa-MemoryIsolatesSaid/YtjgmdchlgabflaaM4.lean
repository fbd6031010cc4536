/- MemoryKeeps: for every module and all numbers the law returns true. No condition. -/
import Derived.Test.YtjgmdchlgabflaaM3
import Derived.Test.YtjgmdchlgabflaaV5
namespace Go.Proofs.Ytjgmdchlgabflaa
open Go.ChangeShapes Go.WideShapes Go.ChangeAt Go.RowKit

section
variable {w w1 : World} {m gb cr n : Nat} {Ar : Option Addr} {rs : List Reg} {f : Nat → Int}
theorem MemAt.stored (h : MemAt w m gb Ar cr rs n f) (hb : Below w.heap.size w w1) (p : Nat) (v : Int) : MemAt (w1.setCell ⟨gb, p, none⟩ (.int .u8 v)) m gb Ar cr rs n (fun i => if i = p then v else f i) := by
  have h1 := h.below hb
  refine h1.upd (by simp [World.setCell]) (fun k hk _ => Below.heap_setCell w1 ⟨gb, p, none⟩ _ k hk) ((h1.bytes.set p (.int .u8 v)).congr fun i _ => ?_)
  by_cases e : i = p
  · rw [if_pos e, if_pos e]
  · rw [if_neg e, if_neg e]
theorem heap_setCells (g : Nat) : ∀ (vs : List Value) (o : Nat) (w : World) (k : Nat), k ≠ g → (w.setCells g o vs).heap[k]? = w.heap[k]?
  | [], _, _, _, _ => rfl
  | v :: vs, o, w, k, hk => (heap_setCells g vs (o + 1) (w.setCell ⟨g, o, none⟩ v) k hk).trans (Below.heap_setCell w ⟨g, o, none⟩ v k hk)
theorem size_setCells (g : Nat) : ∀ (vs : List Value) (o : Nat) (w : World), (w.setCells g o vs).heap.size = w.heap.size
  | [], _, _ => rfl
  | v :: vs, o, w => (size_setCells g vs (o + 1) (w.setCell ⟨g, o, none⟩ v)).trans (by simp [World.setCell])
theorem MemAt.cleared (h : MemAt w m gb Ar cr rs n f) (hb : Below w.heap.size w w1) (o sz : Nat) (ho : o + sz ≤ n) : MemAt (w1.setCells gb o (List.replicate sz (.int .u8 0))) m gb Ar cr rs n (fun i => if o ≤ i ∧ i < o + sz then 0 else f i) := by
  have h1 := h.below hb
  refine h1.upd (Nat.le_of_eq (size_setCells _ _ _ _).symm) (fun k hk _ => heap_setCells gb _ _ _ k hk) ((h1.bytes.setCells (List.replicate sz (.int .u8 0)) o (by simpa using ho)).congr fun i _ => ?_)
  simp only [List.length_replicate]
  by_cases e : o ≤ i ∧ i < o + sz
  · rw [if_pos e, if_pos e, List.getElem?_replicate, if_pos (by omega)]; rfl
  · rw [if_neg e, if_neg e]
end

set_option maxRecDepth 100000 in
set_option maxHeartbeats 2000000 in
theorem keeps_walk (name : ByteArray) (mem frame : Int) (l : List Part) (A : Option Addr) (c : Nat) (x1 x2 v x4 : Int) (w : World) (h : RdPart w w.heap.size A l) (hx1 : IntOk x1) (hx2 : IntOk x2) (hx4 : IntOk x4) :
    Calls Try.prog 9 #[.agg #[.string name, .int .i64 mem, .int .i64 frame, .slice A l.length c], .int .i64 x1, .int .i64 x2, .int .u8 v, .int .i64 x4] w fun e w' => e = .returned (.bool true) ∧ Below w.heap.size w w' := by
  have hW1 : Below w.heap.size w (w.alloc (.cells #[.string name, .int .i64 mem, .int .i64 frame, .slice A l.length c] 33)) := (Below.refl _ w).alloc (Nat.le_refl _) _
  have hb0 := Blk.new w 33 #[.string name, .int .i64 mem, .int .i64 frame, .slice A l.length c]
  have haw := awake_c (w.alloc (.cells #[.string name, .int .i64 mem, .int .i64 frame, .slice A l.length c] 33))
  go_enter Try.func9, Try.ntmps9
  go_wp2_with fail
  refine haw.mono ?_
  rintro e w1 ⟨rfl, hb1⟩
  clear haw
  have hB1 := hW1.trans (hb1.mono (by simp))
  have B1 := hb0.below hb1 (by simp)
  have hlt1 := B1.lt
  have h1 := h.below hB1
  clear h hW1 hb0 hb1
  have q0 := B1.cell 0
  have q1 := B1.cell 1
  have q2 := B1.cell 2
  have q3 := B1.cell 3
  simp at q0 q1 q2 q3
  have hlay := layout_any name mem frame l A c w1 h1
  have hlo := fun rs e h => laid_of (mem := mem) (ms := l.map Part.mem) (rs := rs) (e := e) h
  generalize l.map Part.mem = ms at hlay hlo
  generalize layV mem ms = q at hlay hlo
  obtain ⟨rs, er⟩ := q
  have hlo1 := hlo rs er rfl
  clear hlo
  go_wp2_with fail
  refine hlay.mono ?_
  clear hlay
  rintro e w2 ⟨A2, c2, rfl, hr2, hb2⟩
  have hB2 := hB1.trans (hb2.mono hB1.size)
  have B2 := B1.below hb2 hlt1
  have hlt2 := B2.lt
  clear hb2 hB1 B1 h1 q0 q1 q2 q3 hlt1
  have q1 := B2.cell 1
  simp at q1
  rcases hlo1 with ⟨he, rfl⟩ | ⟨rfl, hlz, hL, hlz2⟩
  · clear hr2
    simp only [List.length_nil]
    go_wp2
    go_ret
    exact ⟨rfl, hB2⟩
  clear hlz hlz2
  simp only
  rcases Nat.eq_zero_or_pos rs.length with hz | hz
  · rw [hz]
    clear hr2 hL
    go_wp2
    go_ret
    exact ⟨rfl, hB2⟩
  have hm0 := hL.mem0
  have hm1 := hL.mem1
  have hl6 := hL.len
  have hP1 := Pick_c x1 rs.length w2 hx1 (by omega) (by omega)
  obtain ⟨k, hkx⟩ : ∃ k : Nat, x1 % (rs.length : Int) = k := ⟨(x1 % rs.length).toNat, by have := Int.emod_nonneg x1 (b := (rs.length : Int)) (by omega); omega⟩
  have hk : k < rs.length := by have := Int.emod_lt_of_pos x1 (b := (rs.length : Int)) (by omega); omega
  rw [hkx] at hP1
  obtain ⟨n, rfl⟩ : ∃ n : Nat, mem = n := ⟨mem.toNat, by omega⟩
  obtain ⟨hp, hbs0, hb8, hs0, hs1, hend⟩ := hL.reg k hk
  obtain ⟨bs, hbs⟩ : ∃ b : Nat, rs[k].base = b := ⟨rs[k].base.toNat, by omega⟩
  obtain ⟨sz, hsz⟩ : ∃ s : Nat, rs[k].size = s := ⟨rs[k].size.toNat, by omega⟩
  have hbn : bs + sz ≤ n := by omega
  have hn4 : n ≤ 4096 := by omega
  obtain ⟨b, o, rfl, hbl, hc⟩ := hr2 (by omega)
  obtain ⟨_, _, d2⟩ := hc k hk
  rw [hsz] at d2
  have hrf : RdReg w2 w2.heap.size (some ⟨b, o, none⟩) rs := fun _ => ⟨b, o, rfl, hbl, hc⟩
  have HL := Lib.hid hL
  have Hbs := Lib.hid hbs
  have Hsz := Lib.hid hsz
  have hk1 : (k : Int) < (rs.length : Int) := by omega
  have hk0 : (0 : Int) ≤ (k : Int) := by omega
  have hz1 : (rs.length : Int) ≠ 0 := by omega
  clear hc hL hbs hsz hr2 hp hbs0 hb8 hs0 hs1 hend
  by_cases hsz0 : sz = 0
  · subst hsz0
    go_wp2_with fail
    refine hP1.mono ?_
    rintro e w' ⟨rfl, rfl⟩
    go_wp2
    go_ret
    exact ⟨rfl, hB2⟩
  have hP2 := fun W => Pick_c x2 sz W hx2 (by omega) (by omega)
  obtain ⟨a, ha⟩ : ∃ a : Nat, x2 % (sz : Int) = a := ⟨(x2 % sz).toNat, by have := Int.emod_nonneg x2 (b := (sz : Int)) (by omega); omega⟩
  have has : a < sz := by have := Int.emod_lt_of_pos x2 (b := (sz : Int)) (by omega); omega
  rw [ha] at hP2
  have hP4 := fun W => Pick_c x4 sz W hx4 (by omega) (by omega)
  obtain ⟨t, ht⟩ : ∃ t : Nat, x4 % (sz : Int) = t := ⟨(x4 % sz).toNat, by have := Int.emod_nonneg x4 (b := (sz : Int)) (by omega); omega⟩
  have hts : t < sz := by have := Int.emod_lt_of_pos x4 (b := (sz : Int)) (by omega); omega
  rw [ht] at hP4
  have hzz : (sz : Int) ≠ 0 := by omega
  go_wp2_with fail
  refine hP1.mono ?_
  rintro e w' ⟨rfl, rfl⟩
  clear hP1
  go_wp2_with fail
  have hec := ext_cell w2
  clear q1
  refine wp_region_ext (by kernel_rfl) (by kernel_rfl) ?_
  repeat (go_big_quiet_step ((go_at_call 23; first | with_reducible exact ext_call_same (hP2 _) | with_reducible exact ext_call_same (hP4 _))))
  refine wpQuiet_nil ?_
  intro _ hw'
  obtain ⟨x, hw''⟩ := hw'
  subst hw''
  have hH := x.h
  generalize x.w = w3 at hH ⊢
  clear x
  have B3 := B2.below hH hlt2
  have hB3 := hB2.trans (hH.mono hB2.size)
  have hr3 := hrf.below hH
  have q1 := B3.cell 1
  simp at q1
  clear hec hP2 hP4 d2 hrf B2 hB2 hH hlt2
  have hnew := New_c rs (some ⟨b, o, none⟩) c2 n w3 hr3 HL.out
  go_wp2_with fail
  refine hnew.mono ?_
  clear hnew
  rintro e w4 ⟨m, gb, Ar, cr, rfl, hM, hm3, hg3, _, hb4⟩
  have hst := store_in hM HL.out hk Hbs.out Hsz.out t hts 99
  go_wp2_with fail
  refine hst.mono ?_
  clear hst
  rintro e w6 ⟨rfl, w5, hb5, rfl⟩
  have hM6 := hM.stored hb5 (bs + t) 99
  have hB6 : Below w3.heap.size w3 (w5.setCell ⟨gb, bs + t, none⟩ (.int .u8 99)) := (hb4.trans (hb5.mono hb4.size)).setCell (by exact hg3) _
  generalize w5.setCell ⟨gb, bs + t, none⟩ (.int .u8 99) = w6 at hM6 hB6 ⊢
  clear hM hb4 hb5
  generalize hf1 : (fun i => if i = bs + t then (99 : Int) else 0) = f1 at hM6
  clear hf1
  have hby := Bytes_c hM6 hn4
  go_wp2_with fail
  refine hby.mono ?_
  clear hby
  rintro e w7 ⟨g1, rfl, hg1, hC1, hb7⟩
  have hgl := hM6.bytes.lt
  have hgne : g1 ≠ gb := by omega
  have hM7 := hM6.below hb7
  have hB7 := hB6.trans (hb7.mono hB6.size)
  have hg1w : w3.heap.size ≤ g1 := Nat.le_trans hB6.size hg1
  clear hM6 hB6 hb7 hgl hg1
  have hst := store_in hM7 HL.out hk Hbs.out Hsz.out a has v
  go_wp2_with fail
  refine hst.mono ?_
  clear hst
  rintro e w9 ⟨rfl, w8, hb8, rfl⟩
  have hM9 := hM7.stored hb8 (bs + a) v
  have hC9 := (hC1.below hb8 hC1.lt).far (p := ⟨gb, bs + a, none⟩) hgne (.int .u8 v)
  have hB9 : Below w3.heap.size w3 (w8.setCell ⟨gb, bs + a, none⟩ (.int .u8 v)) := (hB7.trans (hb8.mono hB7.size)).setCell (by exact hg3) _
  generalize w8.setCell ⟨gb, bs + a, none⟩ (.int .u8 v) = w9 at hM9 hB9 hC9 ⊢
  clear hM7 hB7 hb8 hC1
  generalize hf2 : (fun i => if i = bs + a then v else f1 i) = f2 at hM9
  have hf2a : ∀ i, f2 i = if i = bs + a then v else f1 i := fun i => by rw [← hf2]
  clear hf2
  have hby := Bytes_c hM9 hn4
  go_wp2_with fail
  refine hby.mono ?_
  clear hby
  rintro e w10 ⟨g2, rfl, hg2, hC2, hb10⟩
  have hM10 := hM9.below hb10
  have hC1 := hC9.below hb10 hC9.lt
  have hB10 := hB9.trans (hb10.mono hB9.size)
  clear hM9 hB9 hb10 hC9 hg2
  have B10 := B3.below hB10 B3.lt
  have hB10w := hB3.trans (hB10.mono hB3.size)
  have hgb1 : w.heap.size < gb := Nat.lt_of_lt_of_le B3.lt hg3
  clear hB10 B3 hB3 q1 hr3 hgne hg1w hm3 hg3
  have HC1 := Lib.hid hC1
  have HC2 := Lib.hid hC2
  have Hf2 := Lib.hid hf2a
  have Has := Lib.hid has
  clear hC1 hC2 hf2a
  go_wp2
  go_loopw [17, 18] (fun ch i wr => ∃ (j : Nat) (cc : Int), j ≤ n ∧ i = .int .i64 j ∧ ch = .int .i64 cc ∧ Hid (0 ≤ cc ∧ cc ≤ 1 ∧ (j ≤ bs + a → cc = 0)) ∧ Below w10.heap.size w10 wr) (fun _ i _ => n - (intOf i).toNat)
  case atStart => exact ⟨0, 0, Nat.zero_le _, rfl, rfl, ⟨by omega, by omega, fun _ => rfl⟩, Below.refl _ _⟩
  case round =>
    obtain ⟨j, cc, hj, rfl, rfl, hI, hB⟩ := hrel
    have i0 : 0 ≤ cc := hI.out.1
    have i1 : cc ≤ 1 := hI.out.2.1
    by_cases hlt : j < n
    · have d1 := (HC1.out.below hB HC1.out.lt).cell j hlt
      have d2 := (HC2.out.below hB HC2.out.lt).cell j hlt
      rw [Hf2.out j] at d2
      have hj0 : (0 : Int) ≤ (j : Int) := by omega
      have hj1 : (j : Int) < (n : Int) := by omega
      by_cases hja : j = bs + a
      · rw [if_pos hja] at d2
        generalize f1 j = y at d1
        have Hja := Lib.hid hja
        clear hja hM10
        by_cases hv : y = v
        · subst hv
          have t1 : (y != y) = false := by simp
          go_wp2
          go_quiet (fail)
          go_wp2
          go_roundw
          case rel => exact ⟨j + 1, cc, by omega, by go_num, rfl, ⟨i0, i1, fun h => absurd h (by have := Hja.out; omega)⟩, below_drewN hB _⟩
          case measure => simp [intOf]; omega
        · have t1 : (y != v) = true := by simp [hv]
          have i2 : cc = 0 := hI.out.2.2 (by have := Hja.out; omega)
          subst i2
          go_wp2
          go_quiet (fail)
          go_wp2
          go_roundw
          case rel => exact ⟨j + 1, 1, by omega, by go_num, by go_num, ⟨by omega, by omega, fun h => absurd h (by have := Hja.out; omega)⟩, below_drewN hB _⟩
          case measure => simp [intOf]; omega
      · rw [if_neg hja] at d2
        generalize f1 j = y at d1 d2
        have Hja := Lib.hid hja
        clear hja hM10
        have t1 : (y != y) = false := by simp
        go_wp2
        go_quiet (fail)
        go_wp2
        go_roundw
        case rel => exact ⟨j + 1, cc, by omega, by go_num, rfl, ⟨i0, i1, fun h => hI.out.2.2 (by have := Hja.out; omega)⟩, below_drewN hB _⟩
        case measure => simp [intOf]; omega
    · obtain rfl : j = n := by omega
      have hMr := hM10.below hB
      have hBr := hB10w.trans (hB.mono hB10w.size)
      have Br := B10.below hB B10.lt
      clear hM10 hB10w B10 hB
      have hld := load_in hMr HL.out hk Hbs.out Hsz.out a Has.out
      rw [Hf2.out, if_pos rfl] at hld
      go_wp2_with fail
      refine hld.mono ?_
      clear hld
      rintro e w11 ⟨rfl, hb11⟩
      have hM11 := hMr.below hb11
      have hB11 := hBr.trans (hb11.mono hBr.size)
      have B11 := Br.below hb11 Br.lt
      clear hMr hBr Br hb11
      have hcl := clear_m hM11 HL.out hk Hbs.out Hsz.out
      have ho : offB bs sz = bs := by unfold offB; rw [if_neg hsz0]
      rw [ho] at hcl
      clear ho
      go_wp2_with fail
      refine hcl.mono ?_
      clear hcl
      rintro e w13 ⟨rfl, w12, hb12, rfl⟩
      have hM13 := hM11.cleared hb12 bs sz hbn
      have hB13 := Lib.below_setCells _ (Nat.le_of_lt hgb1) (List.replicate sz (.int .u8 0)) bs (hB11.trans (hb12.mono hB11.size))
      have B12 := B11.below hb12 B11.lt
      have B13 : Blk (w12.setCells gb bs (List.replicate sz (.int .u8 0))) w.heap.size 33 #[.string name, .int .i64 j, .int .i64 frame, .slice A l.length c] := (heap_setCells gb _ bs w12 w.heap.size (by omega)).trans B12
      generalize w12.setCells gb bs (List.replicate sz (.int .u8 0)) = w13 at hM13 hB13 B13 ⊢
      clear hM11 hB11 B11 B12 hb12
      have hld := load_in hM13 HL.out hk Hbs.out Hsz.out a Has.out
      rw [if_pos ⟨by omega, by have := Has.out; omega⟩] at hld
      go_wp2_with fail
      refine hld.mono ?_
      clear hld
      rintro e w14 ⟨rfl, hb14⟩
      have hB14 := hB13.trans (hb14.mono hB13.size)
      have q1 := (B13.below hb14 B13.lt).cell 1
      simp at q1
      clear hM13 hB13 B13 hb14
      go_wp2
      go_ret
      exact ⟨rfl, hB14⟩


-- THE ROW
set_option maxRecDepth 100000 in
theorem memoryKeeps_lifted (os : Os) (started : os.Started) (H : Type) (enc : TypeId × Value → H) :
    ReturnsInHanded {} Try.checked os 9 .any (Rows.memoryKeepsSpec.pre6 enc Try.prog Try.f9 Rows.memoryKeepsRow.domain false) (Rows.memoryKeepsSpec.post enc Try.prog Try.f9 false true false false) := by
  refine returnsInHanded_of_change (C := Try.checked) own started (by kernel_rfl) Try.func9
    (ChangeSpec.witness6 (enc := enc) (C := Try.checked) false ⟨#[], #[.agg #[.string ⟨#[]⟩, .int .i64 0, .int .i64 0, .slice none 0 0], .int .i64 0, .int .i64 0, .int .u8 0, .int .i64 0], []⟩ 8 (by kernel_rfl) (by kernel_rfl) (by kernel_rfl) (by kernel_rfl)) ?_
  intro W base args ds gs before hval0 hW hcnd _
  have hval : ∀ (j : Nat) t v, Try.f9.params[j]? = some t → args[j]? = some v → Value.okWide Try.prog W .any base t v := hval0
  have hW' := hW
  obtain ⟨p, q, hA0, hV, rfl, hfz, hnd⟩ := hW
  have hA : DataW.TrodAll enc Try.prog W 0 (fun _ => true) true Try.f9.params.toList args.toList ds p := hA0
  rw [Try.params9] at hA hval
  obtain ⟨v0, vs0, d0, ds0, p0, q0, hargs, rfl, rfl, h0, r0⟩ := trodAll_cons hA
  obtain ⟨v1, vs1, d1, ds1, p1, q1, rfl, rfl, rfl, h1, r1⟩ := trodAll_cons r0
  obtain ⟨v2, vs2, d2, ds2, p2, q2, rfl, rfl, rfl, h2, r2⟩ := trodAll_cons r1
  obtain ⟨v3, vs3, d3, ds3, p3, q3, rfl, rfl, rfl, h3, r3⟩ := trodAll_cons r2
  obtain ⟨v4, vs4, d4, ds4, p4, q4, rfl, rfl, rfl, h4, r4⟩ := trodAll_cons r3
  obtain ⟨rfl, rfl, rfl⟩ := trodAll_nil r4
  obtain rfl : args = #[v0, v1, v2, v3, v4] := by cases args; simp_all
  obtain ⟨name0, mem0, frame0, A0, c0, l0, rfl, km0, kf0, hlc0, hcm0, hR0, hP0⟩ := open_module (hval 0 33 v0 rfl rfl) h0
  obtain ⟨a1, rfl, rfl, rfl, w1⟩ := open_int Try.underlying3 (hval 1 3 v1 rfl rfl) h1
  obtain ⟨a2, rfl, rfl, rfl, w2⟩ := open_int Try.underlying3 (hval 2 3 v2 rfl rfl) h2
  obtain ⟨a3, rfl, rfl, rfl, w3⟩ := open_int Try.underlying5 (hval 3 5 v3 rfl rfl) h3
  obtain ⟨a4, rfl, rfl, rfl, w4⟩ := open_int Try.underlying3 (hval 4 3 v4 rfl rfl) h4
  clear hA0 hval0
  refine (keeps_walk name0 mem0 frame0 l0 A0 c0 a1 a2 a3 a4 W hR0 (intOk_of w1) (intOk_of w2) (intOk_of w4)).mono fun e W' ⟨he, hg⟩ => ?_
  subst he
  refine ⟨_, rfl, law_post (tb := 4) laid ?_ ?_ Try.underlying4 rfl hW' ⟨rfl, rfl, rfl⟩ hg⟩
  · rw [Try.params9]; intro t ht; simp at ht; rcases ht with rfl | rfl | rfl | rfl <;> exact ⟨by kernel_rfl, of_decide_eq_true (by kernel_rfl)⟩
  · kernel_rfl

theorem memoryKeeps_holds : Rows.MemoryKeepsSaid :=
  OpenClaim.holds_of_wide 9 Try.f9 rfl rfl rfl rfl rfl rfl rfl ⟨rfl, rfl, rfl, rfl, rfl⟩ rfl rfl rfl rfl rfl (by kernel_rfl) Try.func9 (by kernel_rfl)
    (of_decide_eq_true (by kernel_rfl)) (by unfold Func.isWrapper; first | (rw [if_pos (by decide +kernel)]; kernel_rfl) | (rw [if_neg (by decide +kernel)]; exact ⟨rfl, rfl⟩))
    (fun os started H enc _ => memoryKeeps_lifted os started H enc)
#print axioms memoryKeeps_holds
end Go.Proofs.Ytjgmdchlgabflaa
