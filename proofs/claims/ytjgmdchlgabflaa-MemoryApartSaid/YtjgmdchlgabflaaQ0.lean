/- MemoryApart: for every module the law returns true. No condition. -/
import Derived.Test.YtjgmdchlgabflaaP0
import Derived.Test.YtjgmdchlgabflaaV5
namespace Go.Proofs.Ytjgmdchlgabflaa
open Go.ChangeShapes Go.WideShapes Go.ChangeAt Go.RowKit

theorem info3 : (Try.prog.info? 3).map (fun i => (i.zero, i.size, i.bytes)) = some (some (.int .i64 0), 1, 8) := by kernel_rfl

/-- how often an address has been met, where all addresses below B have been gone through. -/
def seenI (rs : List Reg) (B : Int) (a : Nat) : Value := .int .i64 (if (a : Int) < B ∧ (ownV rs a).2.2 = true then 1 else 0)
theorem seen_zero (rs : List Reg) (a : Nat) : seenI rs 0 a = .int .i64 0 := by simp [seenI]; omega

theorem seen_next {rs : List Reg} {mem : Int} (h : Laid rs mem) {k : Nat} (hk : k < rs.length) {a : Int} (h0 : 0 ≤ a) (h1 : a < rs[k].size) {p : Nat} (hp : rs[k].base + a = (p : Int)) (i : Nat) :
    (if i = p then Value.int .i64 1 else seenI rs (rs[k].base + a) i) = seenI rs (rs[k].base + (a + 1)) i := by
  have ho := h.own hk h0 h1
  rw [hp] at ho
  unfold seenI
  by_cases e : i = p
  · subst e
    rw [if_pos rfl, if_pos ⟨by omega, by rw [ho]⟩]
  · rw [if_neg e]
    congr 1
    by_cases e2 : (i : Int) < rs[k].base + a
    · simp [e2, show (i : Int) < rs[k].base + (a + 1) from by omega]
    · simp [e2, show ¬ (i : Int) < rs[k].base + (a + 1) from by omega]
/-- between two regions nothing is owned. -/
theorem seen_gap {rs : List Reg} {mem B C : Int} (h : Laid rs mem) {k : Nat} (hB : ∀ j (hj : j < rs.length), j < k → rs[j].base + rs[j].size ≤ B) (hC : ∀ j (hj : j < rs.length), k ≤ j → C ≤ rs[j].base) (hBC : B ≤ C) (i : Nat) :
    seenI rs B i = seenI rs C i := by
  unfold seenI
  congr 1
  by_cases e : (i : Int) < B
  · simp [e, show (i : Int) < C from by omega]
  · by_cases e2 : (i : Int) < C
    · have := h.free (k := k) (a := i) (fun j hj hjk => by have := hB j hj hjk; omega) (fun j hj hjk => by have := hC j hj hjk; omega)
      simp [this]
    · simp [e, e2]
theorem seen_now {rs : List Reg} {mem : Int} (h : Laid rs mem) {k : Nat} (hk : k < rs.length) {a : Int} (h0 : 0 ≤ a) (h1 : a < rs[k].size) {p : Nat} (hp : rs[k].base + a = (p : Int)) : seenI rs (rs[k].base + a) p = .int .i64 0 := by
  unfold seenI
  rw [if_neg (by omega)]

set_option maxRecDepth 100000 in
set_option maxHeartbeats 2000000 in
theorem apart_walk (name : ByteArray) (mem frame : Int) (l : List Part) (A : Option Addr) (c : Nat) (w : World) (h : RdPart w w.heap.size A l) (hl : l.length ≤ maxLen) :
    Calls Try.prog 7 #[.agg #[.string name, .int .i64 mem, .int .i64 frame, .slice A l.length c]] w fun e w' => e = .returned (.bool true) ∧ Below w.heap.size w w' := by
  unfold maxLen at hl
  have hW1 : Below w.heap.size w (w.alloc (.cells #[.string name, .int .i64 mem, .int .i64 frame, .slice A l.length c] 33)) := (Below.refl _ w).alloc (Nat.le_refl _) _
  have hb0 := Blk.new w 33 #[.string name, .int .i64 mem, .int .i64 frame, .slice A l.length c]
  have haw := awake_c (w.alloc (.cells #[.string name, .int .i64 mem, .int .i64 frame, .slice A l.length c] 33))
  go_enter Try.func7, Try.ntmps7
  go_wp2_with fail
  refine haw.mono ?_
  rintro e w1 ⟨rfl, hb1⟩
  clear haw
  have hB1 := hW1.trans (hb1.mono (by simp))
  have B1 := hb0.below hb1 (by simp)
  have hlt1 := B1.lt
  have h1 := h.below hB1
  clear h hW1 hb0 hb1
  have q0 := B1.cell 0
  have q1 := B1.cell 1
  have q2 := B1.cell 2
  have q3 := B1.cell 3
  simp at q0 q1 q2 q3
  have hlay := layout_any name mem frame l A c w1 h1
  have hms : (l.map Part.mem).length = l.length := by simp
  have hgm : ∀ j (hj : j < l.length) (hj' : j < (l.map Part.mem).length), (l.map Part.mem)[j] = l[j].mem := fun j hj hj' => by simp
  have hlo := fun rs e h => laid_of (mem := mem) (ms := l.map Part.mem) (rs := rs) (e := e) h
  generalize l.map Part.mem = ms at hlay hms hgm hlo
  generalize layV mem ms = q at hlay hlo
  obtain ⟨rs, er⟩ := q
  have hlo1 := hlo rs er rfl
  clear hlo
  go_wp2_with fail
  refine hlay.mono ?_
  clear hlay
  rintro e w2 ⟨A2, c2, rfl, hr2, hb2⟩
  have hB2 := hB1.trans (hb2.mono hB1.size)
  have B2 := B1.below hb2 hlt1
  have h2 := h1.below hb2
  have hlt2 := B2.lt
  clear hb2 hB1 B1 h1 q0 q1 q2 q3 hlt1
  have q1 := B2.cell 1
  have q3 := B2.cell 3
  simp at q1 q3
  rcases hlo1 with ⟨he, rfl⟩ | ⟨rfl, hlen, hL, hsz⟩
  · clear hr2
    simp only [List.length_nil]
    go_wp2
    go_ret
    exact ⟨rfl, hB2⟩
  have hlen2 : l.length = rs.length := by omega
  have hm0 := hL.mem0
  have hm1 := hL.mem1
  have hval := Valid_c mem rs A2 c2 w2 hr2 (by have := hL.len; omega)
  rw [hL.valid] at hval
  have hsz2 : ∀ j (hj : j < rs.length) (hj' : j < l.length), l[j].mem = rs[j].size := fun j hj hj' => by rw [hsz j hj (by omega), hgm j (by omega) (by omega)]
  clear hsz hgm hms
  obtain ⟨n, rfl⟩ : ∃ n : Nat, mem = n := ⟨mem.toNat, by omega⟩
  have HL := Lib.hid hL
  have Hsz := Lib.hid hsz2
  have hl6 := hL.len
  have t1 : ((rs.length : Int) != (l.length : Int)) = false := by simp; omega
  have Hlen := Lib.hid hlen2
  clear hL hsz2 hlen hlen2
  go_wp2_with fail
  refine hval.mono ?_
  clear hval
  rintro e w3 ⟨rfl, hb3⟩
  have hB3 := hB2.trans (hb3.mono hB2.size)
  have B3 := B2.below hb3 hlt2
  have h3 := h2.below hb3
  have hr3 := hr2.below hb3
  have hlt3 := B3.lt
  clear hb3 hB2 B2 h2 hr2 q1 q3 hlt2
  obtain ⟨i0, hi0, hz0, hz1, hz2⟩ := info_parts info3
  have hmk : (Instr.makeSlice 34 (.int .i64 (n : Int)) (.int .i64 (n : Int))).run Try.prog w3 = .ok (.slice (some ⟨w3.heap.size, 0, none⟩) n n) (w3.alloc (.cells (madeCells #[.int .i64 0] n) 3)) := by
    have e := run_make_rowN (P := Try.prog) 34 3 i0 _ Try.underlying34 hi0 hz0 .i64 .i64 n n (by omega) (by rw [hz2]; omega) (by omega) w3
    rw [hz1] at e
    simpa [Value.cells] using e
  have q1 := B3.cell 1
  have q3 := B3.cell 3
  simp at q1 q3
  go_wp2_with fail
  have hC0 : Cells (w3.alloc (.cells (madeCells #[.int .i64 0] n) 3)) w3.heap.size 3 n (seenI rs 0) := (Cells.made w3 3 n (.int .i64 0)).congr fun i _ => (seen_zero rs i).symm
  have hBa : Below w3.heap.size w3 (w3.alloc (.cells (madeCells #[.int .i64 0] n) 3)) := (Below.refl _ _).alloc (Nat.le_refl _) _
  clear hmk hi0 hz0 hz1 hz2
  go_loopw [6, 7] (fun t i wr => ∃ (k : Nat) (tt B : Int), k ≤ rs.length ∧ i = .int .i64 k ∧ t = .int .i64 tt ∧ Hid (0 ≤ tt ∧ tt ≤ B ∧ 0 ≤ B ∧ B ≤ n ∧ (∀ j (hj : j < rs.length), j < k → rs[j].base + rs[j].size ≤ B) ∧ (∀ j (hj : j < rs.length), k ≤ j → B ≤ rs[j].base)) ∧ Below w3.heap.size w3 wr ∧ Cells wr w3.heap.size 3 n (seenI rs B)) (fun _ i _ => rs.length - (intOf i).toNat)
  case atStart => exact ⟨0, 0, 0, Nat.zero_le _, rfl, rfl, ⟨by omega, by omega, by omega, by omega, fun j _ h => absurd h (by omega), fun j hj _ => (HL.out.reg j hj).2.1⟩, hBa, hC0⟩
  case round =>
    obtain ⟨k, tt, B, hk, rfl, rfl, hI, hB, hC⟩ := hrel
    clear hC0 hBa
    have hBf := hB3.trans (hB.mono hB3.size)
    have B4 := B3.below hB hlt3
    have e1 := B4.cell 1
    have e3 := B4.cell 3
    simp at e1 e3
    have hr4 := (hr3.keep hB).more hB.size
    by_cases hlt : k < rs.length
    · have hrk := HL.out.reg k hlt
      obtain ⟨hp, hb0, hb8, hs0, hs1, hend⟩ := hrk
      have hn1 : ∀ i, seenI rs B i = seenI rs rs[k].base i := fun i => by
        obtain ⟨_, _, _, _, i1, i2⟩ := hI.out
        exact seen_gap HL.out i1 (fun j hj hkj => by
          by_cases e : k = j
          · subst e; exact Int.le_refl _
          · have := HL.out.apart k j hlt hj (by omega); omega) (i2 k hlt (Nat.le_refl _)) i
      have hC1 := hC.congr fun i _ => (hn1 i).trans (congrArg (fun z => seenI rs z i) (Int.add_zero _).symm)
      have hI1 : Hid (0 ≤ tt ∧ tt ≤ rs[k].base + 0) := by obtain ⟨i1, i2, _, _, _, i3⟩ := hI.out; have := i3 k hlt (Nat.le_refl _); exact ⟨i1, by omega⟩
      clear hn1 hI hC
      obtain ⟨sz, hsz⟩ : ∃ s : Nat, rs[k].size = s := ⟨rs[k].size.toNat, by omega⟩
      have hlk : k < l.length := by have := Hlen.out; omega
      have hmem : l[k].mem = (sz : Int) := by rw [Hsz.out k hlt hlk, hsz]
      have Hk := Lib.hid (show rs[k].size = (sz : Int) ∧ 0 ≤ rs[k].base ∧ rs[k].base + sz ≤ n from ⟨hsz, hb0, by omega⟩)
      have Hout : Hid (∀ (tt : Int), 0 ≤ tt ∧ tt ≤ rs[k].base + (sz : Int) → (0 ≤ tt ∧ tt ≤ rs[k].base + (sz : Int) ∧ 0 ≤ rs[k].base + (sz : Int) ∧ rs[k].base + (sz : Int) ≤ n ∧ (∀ j (hj : j < rs.length), j < k + 1 → rs[j].base + rs[j].size ≤ rs[k].base + (sz : Int)) ∧ (∀ j (hj : j < rs.length), k + 1 ≤ j → rs[k].base + (sz : Int) ≤ rs[j].base))) := fun tt ht => by
        refine ⟨ht.1, ht.2, by omega, by omega, fun j hj hjk => ?_, fun j hj hkj => ?_⟩
        · by_cases e : j = k
          · subst e; omega
          · have := HL.out.apart j k hj hlt (by omega); omega
        · have := HL.out.apart k j hlt hj (by omega); omega
      have hT := fun (a : Int) (W : World) (hr : RdReg W W.heap.size A2 rs) => Translate_c k a rs A2 c2 W hr (by omega)
      have hO := fun (a : Int) (W : World) (hr : RdReg W W.heap.size A2 rs) => Owner_c a rs A2 c2 W hr (by omega)
      have hT1 : Hid (∀ a : Nat, a < sz → transV rs k a = (rs[k].base + a, 0) ∧ ownV rs (rs[k].base + a) = ((k : Int), (a : Int), true)) := fun a ha => by
        refine ⟨?_, HL.out.own hlt (by omega) (by omega)⟩
        rw [HL.out.trans hlt, if_neg (by omega)]
      have hT2 : transV rs k (-1) = (0, 110) ∧ transV rs k sz = (0, 110) := by
        rw [HL.out.trans hlt, HL.out.trans hlt, if_pos (by omega), if_pos (by omega)]; exact ⟨rfl, rfl⟩
      have HT2 := Lib.hid hT2
      have hnext : Hid (∀ a : Nat, a < sz → ∃ p : Nat, rs[k].base + (a : Int) = p ∧ p < n ∧ seenI rs (rs[k].base + (a : Int)) p = .int .i64 0 ∧ ∀ i, (if i = p then Value.int .i64 1 else seenI rs (rs[k].base + (a : Int)) i) = seenI rs (rs[k].base + ((a : Int) + 1)) i) := fun a ha => by
        obtain ⟨p, hp⟩ : ∃ p : Nat, rs[k].base + (a : Int) = p := ⟨(rs[k].base + a).toNat, by omega⟩
        exact ⟨p, hp, by omega, seen_now HL.out hlt (by omega) (by omega) hp, fun i => seen_next HL.out hlt (by omega) (by omega) hp i⟩
      have hsz4 : sz ≤ 4096 := by omega
      clear hb0 hb8 hs0 hs1 hend hp hsz hT2
      obtain ⟨b, o, rfl, hb, hc⟩ := h3 (by omega)
      have c3w := hc k hlk 3 _ rfl
      rw [hmem] at c3w
      clear hc hmem h3 Hsz
      have c3 := (hB.cell (p := ⟨b, o + k * 10 + 3, none⟩) hb).trans c3w
      have Hk2 : Hid (0 ≤ rs[k].base ∧ rs[k].base + sz ≤ n) := Hk.out.2
      clear Hk
      generalize rs[k].base = bs at hI1 hC1 Hk2 Hout hT1 hnext
      have hk0 : (0 : Int) ≤ (k : Int) := by omega
      have hk1 : (k : Int) < (rs.length : Int) := by omega
      have hk2 : (k : Int) < (l.length : Int) := by omega
      go_wp2
      go_loopw [6, 8] (fun t i wq => ∃ (a : Nat) (tt : Int), a ≤ sz ∧ i = .int .i64 a ∧ t = .int .i64 tt ∧ Hid (0 ≤ tt ∧ tt ≤ bs + a) ∧ Below w3.heap.size w3 wq ∧ Cells wq w3.heap.size 3 n (seenI rs (bs + a))) (fun _ i _ => sz - (intOf i).toNat)
      case atStart => exact ⟨0, tt, Nat.zero_le _, rfl, rfl, hI1, hB, hC1⟩
      case round =>
        clear hI1 hC1 hB hBf B4 e1 e3 hr4 c3
        obtain ⟨a, tt, ha, rfl, rfl, hI2, hB, hC⟩ := hrel
        have hBf := hB3.trans (hB.mono hB3.size)
        have B4 := B3.below hB hlt3
        have e1 := B4.cell 1
        have e3 := B4.cell 3
        simp at e1 e3
        have hr4 := (hr3.keep hB).more hB.size
        have c3 := (hB.cell (p := ⟨b, o + k * 10 + 3, none⟩) hb).trans c3w
        by_cases hat : a < sz
        · obtain ⟨p, hp, hpn, h0, hnx⟩ := hnext.out a hat
          obtain ⟨hta, htb⟩ := hT1.out a hat
          rw [hp] at hta htb
          have hT3 := hT a _ hr4
          rw [hta] at hT3
          have i1 : 0 ≤ tt := hI2.out.1
          have i2 : tt ≤ 5000 := by have := hI2.out; have := Hk2.out; omega
          have Hpn := Lib.hid hpn
          have hp0 : (0 : Int) ≤ (p : Int) := by omega
          have hp1 : (p : Int) < (n : Int) := by omega
          have Hnx := Lib.hid hnx
          have hC5 := hC.congr (fun i _ => rfl)
          clear hnx hpn hnext hT1 c3w hb
          go_wp2_with fail
          refine hT3.mono ?_
          clear hT3
          rintro e w5 ⟨rfl, hb5⟩
          have hB5 := hB.trans (hb5.mono hB.size)
          have hC5 := hC.below hb5 hC.lt
          have B5 := B4.below hb5 B4.lt
          have f1 := B5.cell 1
          simp at f1
          have hO5 := hO p w5 (hr4.below hb5)
          rw [htb] at hO5
          clear hb5 hB hC B4 e1 e3 hr4 c3 hBf hta
          go_wp2_with fail
          refine hO5.mono ?_
          clear hO5
          rintro e w6 ⟨rfl, hb6⟩
          have hB6 := hB5.trans (hb6.mono hB5.size)
          have hC6 := hC5.below hb6 hC5.lt
          clear hb6 hB5 hC5 B5 f1 htb hO hT
          have g0 := hC6.cell p Hpn.out
          rw [h0] at g0
          have gz := hC6.frozen p
          have hC7 := (hC6.set p (.int .i64 1)).congr fun i _ => Hnx.out i
          have hB7 := hB6.setCell (p := ⟨w3.heap.size, p, none⟩) (Nat.le_refl _) (.int .i64 1)
          have t3 : decide ((1 : Int) < 1) = false := by decide
          have Hp := Lib.hid hp
          clear hp h0 hC6 Hnx
          go_wp2
          go_roundw
          case rel => exact ⟨a + 1, tt + 1, by omega, by go_num, by go_num, ⟨by omega, by have := hI2.out; omega⟩, hB7, hC7⟩
          case measure => simp [intOf]; omega
        · obtain rfl : a = sz := by omega
          have hT3 := hT (-1) _ hr4
          rw [HT2.out.1] at hT3
          clear hnext hT1 hO
          go_wp2_with fail
          refine hT3.mono ?_
          clear hT3
          rintro e w5 ⟨rfl, hb5⟩
          have hB5 := hB.trans (hb5.mono hB.size)
          have hC5 := hC.below hb5 hC.lt
          have B5 := B4.below hb5 B4.lt
          have f1 := B5.cell 1
          have f3 := B5.cell 3
          simp at f1 f3
          have c5 := (hB5.cell (p := ⟨b, o + k * 10 + 3, none⟩) hb).trans c3w
          have hT4 := hT a w5 (hr4.below hb5)
          rw [HT2.out.2] at hT4
          clear hb5 hB hC B4 e1 e3 hr4 c3 hBf hT
          go_wp2_with fail
          refine hT4.mono ?_
          clear hT4
          rintro e w6 ⟨rfl, hb6⟩
          have hB6 := hB5.trans (hb6.mono hB5.size)
          have hC6 := hC5.below hb6 hC5.lt
          clear hb6 hB5 hC5 B5 f1 f3 c5
          go_wp2
          go_roundw
          case rel => exact ⟨k + 1, tt, bs + a, by omega, by go_num, rfl, Hout.out tt hI2.out, hB6, hC6⟩
          case measure => simp [intOf]; omega
    · obtain rfl : k = rs.length := by omega
      have hn1 : ∀ i, i < n → seenI rs B i = seenI rs n i := fun i hi => by
        obtain ⟨_, _, _, i4, i1, i2⟩ := hI.out
        exact seen_gap HL.out i1 (fun j hj hkj => absurd hj (by omega)) i4 i
      have hC1 := hC.congr hn1
      have hT := fun (W : World) (hr : RdReg W W.heap.size A2 rs) => Translate_c rs.length 0 rs A2 c2 W hr (by omega)
      rw [HL.out.past 0] at hT
      have hO := fun (a : Int) (W : World) (hr : RdReg W W.heap.size A2 rs) => Owner_c a rs A2 c2 W hr (by omega)
      have i1 : 0 ≤ tt := hI.out.1
      have i2 : tt ≤ n := by have := hI.out; omega
      clear hn1 hC h3 Hsz
      go_wp2
      go_loopw [18] (fun i wq => ∃ a : Nat, a ≤ n ∧ i = .int .i64 a ∧ Below w3.heap.size w3 wq ∧ Cells wq w3.heap.size 3 n (seenI rs n)) (fun i _ => n - (intOf i).toNat)
      case atStart => exact ⟨0, Nat.zero_le _, rfl, hB, hC1⟩
      case round =>
        clear hB hC1 hBf B4 e1 e3 hr4
        obtain ⟨a, ha, rfl, hB, hC⟩ := hrel
        have hBf := hB3.trans (hB.mono hB3.size)
        have B4 := B3.below hB hlt3
        have e1 := B4.cell 1
        simp at e1
        have hr4 := (hr3.keep hB).more hB.size
        by_cases hat : a < n
        · have hO5 := hO a _ hr4
          have hs : seenI rs n a = .int .i64 (if (ownV rs a).2.2 = true then 1 else 0) := by
            unfold seenI; congr 1; simp [hat]
          have hp0 : (0 : Int) ≤ (a : Int) := by omega
          have hp1 : (a : Int) < (n : Int) := by omega
          generalize ownV rs a = q at hO5 hs
          obtain ⟨q1, q2, q3⟩ := q
          simp only at hO5 hs
          clear hT hO
          go_wp2_with fail
          refine hO5.mono ?_
          clear hO5
          rintro e w5 ⟨rfl, hb5⟩
          have hB5 := hB.trans (hb5.mono hB.size)
          have hC5 := hC.below hb5 hC.lt
          have g0 := hC5.cell a hat
          rw [hs] at g0
          have Hat := Lib.hid hat
          clear hb5 hB hC B4 e1 hr4 hBf hs hat
          cases q3 with
          | true =>
            simp only [if_true] at g0
            go_wp2
            go_roundw
            case rel => exact ⟨a + 1, by have := Hat.out; omega, by go_num, hB5, hC5⟩
            case measure => have := Hat.out; simp [intOf]; omega
          | false =>
            simp only [Bool.false_eq_true, if_false] at g0
            go_wp2
            go_roundw
            case rel => exact ⟨a + 1, by have := Hat.out; omega, by go_num, hB5, hC5⟩
            case measure => have := Hat.out; simp [intOf]; omega
        · obtain rfl : a = n := by omega
          have hT3 := hT _ hr4
          clear hT hO hC
          go_wp2_with fail
          refine hT3.mono ?_
          clear hT3
          rintro e w5 ⟨rfl, hb5⟩
          have hB5 := hBf.trans (hb5.mono hBf.size)
          have B5 := B4.below hb5 B4.lt
          have f1 := B5.cell 1
          simp at f1
          clear hb5 hB B4 e1 hr4 hBf
          go_wp2
          go_ret
          exact ⟨rfl, hB5⟩

-- THE ROW
set_option maxRecDepth 100000 in
theorem memoryApart_lifted (os : Os) (started : os.Started) (H : Type) (enc : TypeId × Value → H) :
    ReturnsInHanded {} Try.checked os 7 .any (Rows.memoryApartSpec.pre6 enc Try.prog Try.f7 Rows.memoryApartRow.domain false) (Rows.memoryApartSpec.post enc Try.prog Try.f7 false true false false) := by
  refine returnsInHanded_of_change (C := Try.checked) own started (by kernel_rfl) Try.func7
    (ChangeSpec.witness6 (enc := enc) (C := Try.checked) false ⟨#[], #[.agg #[.string ⟨#[]⟩, .int .i64 0, .int .i64 0, .slice none 0 0]], []⟩ 8 (by kernel_rfl) (by kernel_rfl) (by kernel_rfl) (by kernel_rfl)) ?_
  intro W base args ds gs before hval0 hW hcnd _
  have hval : ∀ (j : Nat) t v, Try.f7.params[j]? = some t → args[j]? = some v → Value.okWide Try.prog W .any base t v := hval0
  have hW' := hW
  obtain ⟨p, q, hA0, hV, rfl, hfz, hnd⟩ := hW
  have hA : DataW.TrodAll enc Try.prog W 0 (fun _ => true) true Try.f7.params.toList args.toList ds p := hA0
  rw [Try.params7] at hA hval
  obtain ⟨v0, vs0, d0, ds0, p0, q0, hargs, rfl, rfl, h0, r0⟩ := trodAll_cons hA
  obtain ⟨rfl, rfl, rfl⟩ := trodAll_nil r0
  obtain rfl : args = #[v0] := by cases args; simp_all
  obtain ⟨name0, mem0, frame0, A0, c0, l0, rfl, km0, kf0, hlc0, hcm0, hR0, hP0⟩ := open_module (hval 0 33 v0 rfl rfl) h0
  clear hA0 hval0
  refine (apart_walk name0 mem0 frame0 l0 A0 c0 W hR0 (Nat.le_trans hlc0 hcm0)).mono fun e W' ⟨he, hg⟩ => ?_
  subst he
  refine ⟨_, rfl, law_post (tb := 4) laid ?_ ?_ Try.underlying4 rfl hW' ⟨rfl, rfl, rfl⟩ hg⟩
  · rw [Try.params7]; intro t ht; simp at ht; subst ht; exact ⟨by kernel_rfl, of_decide_eq_true (by kernel_rfl)⟩
  · kernel_rfl

theorem memoryApart_holds : Rows.MemoryApartSaid :=
  OpenClaim.holds_of_wide 7 Try.f7 rfl rfl rfl rfl rfl rfl rfl ⟨rfl, rfl, rfl, rfl, rfl⟩ rfl rfl rfl rfl rfl (by kernel_rfl) Try.func7 (by kernel_rfl)
    (of_decide_eq_true (by kernel_rfl)) (by unfold Func.isWrapper; first | (rw [if_pos (by decide +kernel)]; kernel_rfl) | (rw [if_neg (by decide +kernel)]; exact ⟨rfl, rfl⟩))
    (fun os started H enc _ => memoryApart_lifted os started H enc)
#print axioms memoryApart_holds
end Go.Proofs.Ytjgmdchlgabflaa
