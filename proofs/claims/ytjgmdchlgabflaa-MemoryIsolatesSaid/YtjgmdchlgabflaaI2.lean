/- MemoryIsolates: for every module, all operations and all numbers the law returns true. No condition. -/
import Derived.Test.YtjgmdchlgabflaaI0
import Derived.Test.YtjgmdchlgabflaaI1
namespace Go.Proofs.Ytjgmdchlgabflaa
open Go.ChangeShapes Go.WideShapes Go.ChangeAt Go.RowKit

theorem emod_nat (x : Int) (n : Nat) (hn : 0 < n) : ∃ k : Nat, x % (n : Int) = k ∧ k < n :=
  ⟨(x % n).toNat, by have := Int.emod_nonneg x (b := (n : Int)) (by omega); omega, by have := Int.emod_lt_of_pos x (b := (n : Int)) (by omega); have := Int.emod_nonneg x (b := (n : Int)) (by omega); omega⟩

set_option maxRecDepth 100000 in
set_option maxHeartbeats 2000000 in
theorem isolates_walk (name : ByteArray) (mem frame : Int) (l : List Part) (A : Option Addr) (c : Nat) (ops : List (List Int)) (Ao : Option Addr) (co : Nat) (x : Int) (w : World) (h : RdPart w w.heap.size A l)
    (ho : RdRows w w.heap.size Ao ops) (hol : ops.length ≤ maxLen) (hox : ∀ r ∈ ops, ∀ y ∈ r, IntOk y) (hx : IntOk x) :
    Calls Try.prog 8 #[.agg #[.string name, .int .i64 mem, .int .i64 frame, .slice A l.length c], .slice Ao ops.length co, .int .i64 x] w fun e w' => e = .returned (.bool true) ∧ Below w.heap.size w w' := by
  unfold maxLen at hol
  have hW1 : Below w.heap.size w (w.alloc (.cells #[.string name, .int .i64 mem, .int .i64 frame, .slice A l.length c] 33)) := (Below.refl _ w).alloc (Nat.le_refl _) _
  have hb0 := Blk.new w 33 #[.string name, .int .i64 mem, .int .i64 frame, .slice A l.length c]
  have haw := awake_c (w.alloc (.cells #[.string name, .int .i64 mem, .int .i64 frame, .slice A l.length c] 33))
  go_enter Try.func8, Try.ntmps8
  go_wp2_with fail
  refine haw.mono ?_
  rintro e w1 ⟨rfl, hb1⟩
  clear haw
  have hB1 := hW1.trans (hb1.mono (by simp))
  have B1 := hb0.below hb1 (by simp)
  have hlt1 := B1.lt
  have h1 := h.below hB1
  clear h hW1 hb0 hb1
  have q0 := B1.cell 0
  have q1 := B1.cell 1
  have q2 := B1.cell 2
  have q3 := B1.cell 3
  simp at q0 q1 q2 q3
  have hlay := layout_any name mem frame l A c w1 h1
  have hlo := fun rs e h => laid_of (mem := mem) (ms := l.map Part.mem) (rs := rs) (e := e) h
  generalize l.map Part.mem = ms at hlay hlo
  generalize layV mem ms = q at hlay hlo
  obtain ⟨rs, er⟩ := q
  have hlo1 := hlo rs er rfl
  clear hlo
  go_wp2_with fail
  refine hlay.mono ?_
  clear hlay
  rintro e w2 ⟨A2, c2, rfl, hr2, hb2⟩
  have hB2 := hB1.trans (hb2.mono hB1.size)
  have B2 := B1.below hb2 hlt1
  have hlt2 := B2.lt
  clear hb2 hB1 B1 h1 q0 q1 q2 q3 hlt1
  have q1 := B2.cell 1
  simp at q1
  rcases hlo1 with ⟨he, rfl⟩ | ⟨rfl, hlz, hL, hlz2⟩
  · clear hr2
    simp only [List.length_nil]
    go_wp2
    go_ret
    exact ⟨rfl, hB2⟩
  clear hlz hlz2
  simp only
  rcases Nat.eq_zero_or_pos rs.length with hz | hz
  · rw [hz]
    clear hr2 hL
    go_wp2
    go_ret
    exact ⟨rfl, hB2⟩
  have hz' : ((rs.length : Int) == 0) = false := beq_eq_false_iff_ne.2 (by omega)
  by_cases h100 : 100 < ops.length
  · have h100' : (100 : Int) < (ops.length : Int) := by omega
    clear hr2 hL
    go_wp2
    go_ret
    exact ⟨rfl, hB2⟩
  have h100' : (ops.length : Int) ≤ 100 := by omega
  have hm0 := hL.mem0
  have hm1 := hL.mem1
  have hl6 := hL.len
  have hP1 := Pick_c x rs.length w2 hx (by omega) (by omega)
  obtain ⟨me, hme, hmel⟩ := emod_nat x rs.length hz
  rw [hme] at hP1
  obtain ⟨n, rfl⟩ : ∃ n : Nat, mem = n := ⟨mem.toNat, by omega⟩
  have HL := Lib.hid hL
  have hz1 : (rs.length : Int) ≠ 0 := by omega
  clear hL hme
  go_wp2_with fail
  refine hP1.mono ?_
  clear hP1
  rintro e w' ⟨rfl, rfl⟩
  have hnew := New_c rs A2 c2 n w2 hr2 HL.out
  go_wp2_with fail
  refine hnew.mono ?_
  clear hnew
  rintro e w4 ⟨m, gb, Ar, cr, rfl, hM, hm3, hg3, hA3, hb4⟩
  have hB4 := hB2.trans (hb4.mono hB2.size)
  have B4 := B2.below hb4 hlt2
  have hr4 := hr2.below hb4
  have q1 := B4.cell 1
  simp at q1
  have hnew := New_c rs A2 c2 n w4 hr4 HL.out
  go_wp2_with fail
  refine hnew.mono ?_
  clear hnew
  rintro e w5 ⟨m', gb', Ar', cr', rfl, hM', hm5, hg5, hA5, hb5⟩
  have hB5 := hb4.trans (hb5.mono hb4.size)
  have hM5 := hM.below hb5
  have hgl := hM.bytes.lt
  have hml := hM.obj.lt
  have hd1 : gb' ≠ gb := by omega
  have hd2 : m' ≠ gb := by omega
  have hd3 : ∀ a, Ar' = some a → a.block ≠ gb := fun a ha => by have := (hA5 a ha).1; omega
  have hd4 : m ≠ gb' := by omega
  have hd5 : ∀ a, Ar = some a → a.block ≠ gb' := fun a ha => by have := (hA3 a ha).2; omega
  have hs4 := hb4.size
  clear hM hb4 hb5 hr4 hB4 B4 q1 hgl hml hm3 hm5 hA3 hA5
  have ho2 := (ho.keep hB2)
  have hg5' : w2.heap.size ≤ gb' := by omega
  go_wp2
  go_loopw [14] (fun i wr => ∃ (j : Nat) (f g : Nat → Int), j ≤ ops.length ∧ i = .int .i64 j ∧ Below w2.heap.size w2 wr ∧ MemAt wr m gb Ar cr rs n f ∧ MemAt wr m' gb' Ar' cr' rs n g ∧ Hid (∀ i : Nat, rs[me].base ≤ (i : Int) → (i : Int) < rs[me].base + rs[me].size → f i = g i)) (fun i _ => ops.length - (intOf i).toNat)
  case atStart => exact ⟨0, _, _, Nat.zero_le _, rfl, hB5, hM5, hM', fun _ _ _ => rfl⟩
  case round =>
    obtain ⟨j, f, g, hj, rfl, hB, hF, hG, hI⟩ := hrel
    have hBf := hB2.trans (hB.mono hB2.size)
    by_cases hlt : j < ops.length
    · have horow := ho2.keep (hB.mono hB2.size)
      obtain ⟨b, o, rfl, hbl, hcr⟩ := horow (by omega)
      obtain ⟨A', c', e1, hri⟩ := hcr j hlt
      have hok := hox ops[j] (List.getElem_mem hlt)
      have hj0 : (0 : Int) ≤ (j : Int) := by omega
      have hj1 : (j : Int) < (ops.length : Int) := by omega
      clear hcr horow
      generalize ops[j] = row at e1 hri hok
      by_cases h4 : row.length = 4
      · obtain ⟨x0, x1, x2, x3, rfl⟩ : ∃ x0 x1 x2 x3, row = [x0, x1, x2, x3] := by
          match row, h4 with
          | [x0, x1, x2, x3], _ => exact ⟨x0, x1, x2, x3, rfl⟩
        obtain ⟨b', o', rfl, hbl', hi⟩ := hri (by simp)
        have i0 : wr.cell? ⟨b', o', none⟩ = some (.int .i64 x0) := hi 0 (by simp)
        have i1 : wr.cell? ⟨b', o' + 1, none⟩ = some (.int .i64 x1) := hi 1 (by simp)
        have i2 : wr.cell? ⟨b', o' + 2, none⟩ = some (.int .i64 x2) := hi 2 (by simp)
        have i3 : wr.cell? ⟨b', o' + 3, none⟩ = some (.int .i64 x3) := hi 3 (by simp)
        have k0 := hok x0 (by simp)
        have k1 := hok x1 (by simp)
        have k2 := hok x2 (by simp)
        simp only [List.length_cons, List.length_nil] at e1
        have hp0 := fun W => Pick_c x0 3 W k0 (by omega) (by omega)
        have hp1 := fun W => Pick_c x1 rs.length W k1 (by omega) (by omega)
        obtain ⟨kd, hkd, hkdl⟩ := emod_nat x0 3 (by omega)
        obtain ⟨k, hk, hkl⟩ := emod_nat x1 rs.length hz
        have hkd' : x0 % 3 = (kd : Int) := hkd
        rw [hkd'] at hp0
        rw [hk] at hp1
        have hr := hr2.keep hB
        obtain ⟨b2, o2, rfl, hbl2, hcr⟩ := hr (by omega)
        obtain ⟨_, _, d2⟩ := hcr k hkl
        obtain ⟨hpp, hbs0, hb8, hs0, hs1, hend⟩ := HL.out.reg k hkl
        obtain ⟨bs, hbs⟩ : ∃ b : Nat, rs[k].base = b := ⟨rs[k].base.toNat, by omega⟩
        obtain ⟨sz, hsz⟩ : ∃ s : Nat, rs[k].size = s := ⟨rs[k].size.toNat, by omega⟩
        rw [hsz] at d2
        have hsz4 : (sz : Int) ≤ 4096 := by omega
        have Hbs := Lib.hid hbs
        have Hsz := Lib.hid hsz
        have hwsz : w.heap.size ≤ w2.heap.size := hB2.size
        have hl1 : b < wr.heap.size := by have := hB.size; omega
        have hl2 : b' < wr.heap.size := by have := hB.size; omega
        have hl3 : b2 < wr.heap.size := by have := hB.size; omega
        clear hi hri hok k0 k1 hkd hkd' hk hcr hr hpp hbs0 hb8 hs0 hs1 hend hbs hsz h4
        go_wp2_with fail
        have hec := ext_cell wr
        refine wp_region_ext (by kernel_rfl) (by kernel_rfl) ?_
        repeat (go_big_quiet_step ((go_at_call 23; first | with_reducible exact ext_call_same (hp0 _) | with_reducible exact ext_call_same (hp1 _))))
        refine wpQuiet_nil ?_
        intro _ hw'
        obtain ⟨y, hw''⟩ := hw'
        subst hw''
        have hH := y.h
        generalize y.w = w6 at hH ⊢
        clear y
        have hB6 := hB.trans (hH.mono hB.size)
        have hF6 := hF.below hH
        have hG6 := hG.below hH
        have j1 := (hH.cell (p := ⟨b, o + j, none⟩) hl1).trans e1
        have j2 := (hH.cell (p := ⟨b', o' + 2, none⟩) hl2).trans i2
        have j3 := (hH.cell (p := ⟨b', o' + 3, none⟩) hl2).trans i3
        have r2 := (hH.cell (p := ⟨b2, o2 + k * 3 + 2, none⟩) hl3).trans d2
        have s1 : b < w6.heap.size := by have := hH.size; omega
        have s2 : b' < w6.heap.size := by have := hH.size; omega
        have s3 : b2 < w6.heap.size := by have := hH.size; omega
        have hp2 := fun W => Pick_c x2 ((sz : Int) + 2) W k2 (by omega) (by omega)
        have hy0 : 0 ≤ x2 % ((sz : Int) + 2) := Int.emod_nonneg _ (by omega)
        have hy1 : x2 % ((sz : Int) + 2) < (sz : Int) + 2 := Int.emod_lt_of_pos _ (by omega)
        generalize x2 % ((sz : Int) + 2) = y at hp2 hy0 hy1
        have kk0 : (0 : Int) ≤ (k : Int) := by omega
        have kk1 : (k : Int) < (rs.length : Int) := by omega
        clear hec hp0 hp1 e1 i0 i1 i2 i3 d2 hl1 hl2 hl3 hF hG hB hBf
        go_wp2_with fail
        have hec := ext_cell w6
        have hw1 : IntKind.i64.wrap ((sz : Int) + 2) = (sz : Int) + 2 := IntWalk.i64_in _ (by omega)
        have hw2 : IntKind.i64.wrap (y - 1) = y - 1 := IntWalk.i64_in _ (by omega)
        refine wp_region_ext (by kernel_rfl) (by kernel_rfl) ?_
        repeat (go_big_quiet_step ((go_at_call 23; with_reducible exact ext_call_same (hp2 _))))
        refine wpQuiet_nil ?_
        intro _ hw'
        obtain ⟨q, hw''⟩ := hw'
        subst hw''
        have hH := q.h
        generalize q.w = w7 at hH ⊢
        clear q
        have hB7 := hB6.trans (hH.mono hB6.size)
        have hF7 := hF6.below hH
        have hG7 := hG6.below hH
        have m1 := (hH.cell (p := ⟨b, o + j, none⟩) s1).trans j1
        have m3 := (hH.cell (p := ⟨b', o' + 3, none⟩) s2).trans j3
        have n1 : b < w7.heap.size := by have := hH.size; omega
        have n2 : b' < w7.heap.size := by have := hH.size; omega
        clear hec hw1 hw2 hp2 j1 j2 j3 r2 s1 s2 s3 hF6 hG6 hB6
        have hact := fun v => act_c hF7 HL.out hkl Hbs.out Hsz.out kd hkdl (y - 1) v
        go_wp2_with fail
        refine (hact _).mono ?_
        clear hact
        rintro e w8 ⟨rfl, hF8, hA8⟩
        have hb78 : Below w2.heap.size w7 w8 := hA8.below _ hg3 hB7.size
        have hB8 := hB7.trans hb78
        have hG8 := hG7.aside hA8 hd1 hd2 hd3
        have l1 := (hb78.cell (p := ⟨b, o + j, none⟩) (by show b < w2.heap.size; omega)).trans m1
        have l3 := (hb78.cell (p := ⟨b', o' + 3, none⟩) (by show b' < w2.heap.size; omega)).trans m3
        clear hF7 hG7 hA8 hb78 m1 m3 n1 n2 hB7
        have hIn : k = me → ∀ i, bs ≤ i → i < bs + sz → f i = g i := fun e i h0 h1 => by
          subst e
          exact hI.out i (by rw [Hbs.out]; omega) (by rw [Hbs.out, Hsz.out]; omega)
        by_cases hkm : k = me
        · have hsame := act_same (kind := kd) (a := y - 1) (hIn hkm)
          have hagree : Hid (∀ i : Nat, rs[me].base ≤ (i : Int) → (i : Int) < rs[me].base + rs[me].size → actF f bs sz kd (y - 1) (x3 % 256) i = actF g bs sz kd (y - 1) (x3 % 256) i) := fun i h0 h1 => by
            subst hkm
            rw [Hbs.out] at h0 h1
            rw [Hsz.out] at h1
            exact act_agree (hIn rfl) i (by omega) (by omega)
          have hact := act_c hG8 HL.out hkl Hbs.out Hsz.out kd hkdl (y - 1) (x3 % 256)
          rw [← hsame] at hact
          generalize actR f bs sz kd (y - 1) = rr at hact
          obtain ⟨r1, r2⟩ := rr
          have t1 : ((k : Int) != (me : Int)) = false := by simp [hkm]
          have t2 : (r1 != r1) = false := by simp
          have t3 : (r2 != r2) = false := by simp
          clear hsame hIn hkm
          simp only
          go_wp2_with fail
          refine hact.mono ?_
          clear hact
          rintro e w9 ⟨rfl, hG9, hA9⟩
          have hb89 : Below w2.heap.size w8 w9 := hA9.below _ hg5' hB8.size
          have hB9 := hB8.trans hb89
          have hF9 := hF8.aside hA9 (fun e => hd1 e.symm) hd4 hd5
          clear hF8 hG8 hA9 hb89 hB8 l1 l3
          simp only
          go_wp2
          go_roundw
          case rel => exact ⟨j + 1, _, _, by omega, by go_num, hB9, hF9, hG9, hagree⟩
          case measure => simp [intOf]; omega
        · have t1 : ((k : Int) != (me : Int)) = true := by simp; omega
          have hagree : Hid (∀ i : Nat, rs[me].base ≤ (i : Int) → (i : Int) < rs[me].base + rs[me].size → actF f bs sz kd (y - 1) (x3 % 256) i = g i) := fun i h0 h1 => by
            rw [act_far]
            · exact hI.out i h0 h1
            · have hb := Hbs.out
              have hs := Hsz.out
              by_cases hlt' : k < me
              · have := HL.out.apart k me hkl hmel hlt'
                right; omega
              · have := HL.out.apart me k hmel hkl (by omega)
                left; omega
          clear hIn hkm l1 l3
          generalize actR f bs sz kd (y - 1) = rr
          obtain ⟨r1, r2⟩ := rr
          simp only
          go_wp2
          go_roundw
          case rel => exact ⟨j + 1, _, g, by omega, by go_num, hB8, hF8, hG8, hagree⟩
          case measure => simp [intOf]; omega
      · have h4' : ((row.length : Int) != 4) = true := by simp; omega
        clear hri hok
        go_wp2
        go_roundw
        case rel => exact ⟨j + 1, f, g, by omega, by go_num, hB, hF, hG, hI⟩
        case measure => simp [intOf]; omega
    · clear hF hG hB
      go_wp2
      go_ret
      exact ⟨rfl, hBf⟩

-- THE ROW
set_option maxRecDepth 100000 in
theorem memoryIsolates_lifted (os : Os) (started : os.Started) (H : Type) (enc : TypeId × Value → H) :
    ReturnsInHanded {} Try.checked os 8 .any (Rows.memoryIsolatesSpec.pre6 enc Try.prog Try.f8 Rows.memoryIsolatesRow.domain false) (Rows.memoryIsolatesSpec.post enc Try.prog Try.f8 false true false false) := by
  refine returnsInHanded_of_change (C := Try.checked) own started (by kernel_rfl) Try.func8
    (ChangeSpec.witness6 (enc := enc) (C := Try.checked) false ⟨#[], #[.agg #[.string ⟨#[]⟩, .int .i64 0, .int .i64 0, .slice none 0 0], .slice none 0 0, .int .i64 0], []⟩ 8 (by kernel_rfl) (by kernel_rfl) (by kernel_rfl) (by kernel_rfl)) ?_
  intro W base args ds gs before hval0 hW hcnd _
  have hval : ∀ (j : Nat) t v, Try.f8.params[j]? = some t → args[j]? = some v → Value.okWide Try.prog W .any base t v := hval0
  have hW' := hW
  obtain ⟨p, q, hA0, hV, rfl, hfz, hnd⟩ := hW
  have hA : DataW.TrodAll enc Try.prog W 0 (fun _ => true) true Try.f8.params.toList args.toList ds p := hA0
  rw [Try.params8] at hA hval
  obtain ⟨v0, vs0, d0, ds0, p0, q0, hargs, rfl, rfl, h0, r0⟩ := trodAll_cons hA
  obtain ⟨v1, vs1, d1, ds1, p1, q1, rfl, rfl, rfl, h1, r1⟩ := trodAll_cons r0
  obtain ⟨v2, vs2, d2, ds2, p2, q2, rfl, rfl, rfl, h2, r2⟩ := trodAll_cons r1
  obtain ⟨rfl, rfl, rfl⟩ := trodAll_nil r2
  obtain rfl : args = #[v0, v1, v2] := by cases args; simp_all
  obtain ⟨name0, mem0, frame0, A0, c0, l0, rfl, km0, kf0, hlc0, hcm0, hR0, hP0⟩ := open_module (hval 0 33 v0 rfl rfl) h0
  obtain ⟨A1, c1, l1, rfl, hlc1, hcm1, hR1, hP1⟩ := open_rows (hval 1 58 v1 rfl rfl) h1
  obtain ⟨a2, rfl, rfl, rfl, w2⟩ := open_int Try.underlying3 (hval 2 3 v2 rfl rfl) h2
  clear hA0 hval0
  refine (isolates_walk name0 mem0 frame0 l0 A0 c0 l1 A1 c1 a2 W hR0 hR1 (Nat.le_trans hlc1 hcm1) hP1 (intOk_of w2)).mono fun e W' ⟨he, hg⟩ => ?_
  subst he
  refine ⟨_, rfl, law_post (tb := 4) laid ?_ ?_ Try.underlying4 rfl hW' ⟨rfl, rfl, rfl⟩ hg⟩
  · rw [Try.params8]; intro t ht; simp at ht; rcases ht with rfl | rfl | rfl <;> exact ⟨by kernel_rfl, of_decide_eq_true (by kernel_rfl)⟩
  · kernel_rfl

theorem memoryIsolates_holds : Rows.MemoryIsolatesSaid :=
  OpenClaim.holds_of_wide 8 Try.f8 rfl rfl rfl rfl rfl rfl rfl ⟨rfl, rfl, rfl, rfl, rfl⟩ rfl rfl rfl rfl rfl (by kernel_rfl) Try.func8 (by kernel_rfl)
    (of_decide_eq_true (by kernel_rfl)) (by unfold Func.isWrapper; first | (rw [if_pos (by decide +kernel)]; kernel_rfl) | (rw [if_neg (by decide +kernel)]; exact ⟨rfl, rfl⟩))
    (fun os started H enc _ => memoryIsolates_lifted os started H enc)
#print axioms memoryIsolates_holds
end Go.Proofs.Ytjgmdchlgabflaa
