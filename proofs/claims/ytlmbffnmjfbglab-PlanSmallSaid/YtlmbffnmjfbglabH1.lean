/- The reference of the planner: last, slot, conflict, possible, Size, Fits, Conflict. -/
import Derived.Test.YtlmbffnmjfbglabK1
set_option linter.unusedSimpArgs false
set_option linter.unusedVariables false
namespace Go.Proofs.Ytlmbffnmjfbglab
open Go.ChangeShapes Go.WideShapes Go.ChangeAt Go.RowKit

set_option maxRecDepth 100000 in
set_option maxHeartbeats 1000000 in
theorem rlast_c (name : ByteArray) (mem F : Int) (ps : List Part) (A : Option Addr) (c : Nat) (k : Nat) (w : World) (h : RdPart w w.heap.size A ps) (hk : k < ps.length) (hT : timesV F ps = true) :
    Calls Try.prog 77 #[.agg #[.string name, .int .i64 mem, .int .i64 F, .slice A ps.length c], .int .i64 k] w fun e w' => e = .returned (.int .i64 (lastP ps k)) ∧ Below w.heap.size w w' := by
  have hp := (timesV_ok hT).per ps[k] (List.getElem_mem _)
  have hl := (timesV_ok hT).len ps[k] (List.getElem_mem _)
  have h6 := (timesV_ok hT).few
  have hv : lastP ps k = ps[k].period - ps[k].length := by simp [lastP, hk]
  obtain ⟨W1, hW1⟩ : ∃ W1, W1 = w.alloc (.cells #[.string name, .int .i64 mem, .int .i64 F, .slice A ps.length c] 24) := ⟨_, rfl⟩
  have hB : Below w.heap.size w W1 := by rw [hW1]; exact (Below.refl _ w).alloc (Nat.le_refl _) _
  have hb0 : Blk W1 w.heap.size 24 #[.string name, .int .i64 mem, .int .i64 F, .slice A ps.length c] := by rw [hW1]; exact Blk.new w 24 _
  have q3 : W1.cell? ⟨w.heap.size, 3, none⟩ = some (.slice A ps.length c) := hb0.cell 3
  obtain ⟨b, o, rfl, hb, hcp⟩ := (h.below hB) (by omega)
  have p1 : W1.cell? ⟨b, o + k * 10 + 1, none⟩ = some (.int .i64 ps[k].period) := hcp k hk 1 _ rfl
  have p2 : W1.cell? ⟨b, o + k * 10 + 2, none⟩ = some (.int .i64 ps[k].length) := hcp k hk 2 _ rfl
  have hi0 : (0 : Int) ≤ (k : Int) := by omega
  have hi1 : (k : Int) < (ps.length : Int) := by omega
  have hwr := IntWalk.i64_in (ps[k].period - ps[k].length) (by omega)
  have HW1 := Lib.hid hW1
  have Hv := Lib.hid hv
  clear hcp h hW1 hv hT hp hl hb0
  generalize ps[k].period = P at *
  generalize ps[k].length = L at *
  go_enter Try.func77, Try.ntmps77
  go_wp2_with fail
  rw [← HW1.out]
  go_quiet (fail)
  have hB2 := below_drewN hB nq
  go_wp2_with fail
  go_ret
  exact ⟨ret_int Hv.out.symm, hB2⟩

set_option maxRecDepth 100000 in
set_option maxHeartbeats 1000000 in
theorem rslot_c (name : ByteArray) (mem F : Int) (ps : List Part) (A : Option Addr) (c : Nat) (k : Nat) (x : Int) (w : World) (h : RdPart w w.heap.size A ps) (hk : k < ps.length) (h6 : ps.length ≤ 6) :
    Calls Try.prog 91 #[.agg #[.string name, .int .i64 mem, .int .i64 F, .slice A ps.length c], .int .i64 k, .int .i64 x] w fun e w' => e = .returned (.agg #[.int .i64 x, .int .i64 ps[k].period, .int .i64 ps[k].length]) ∧ Below w.heap.size w w' := by
  obtain ⟨W1, hW1⟩ : ∃ W1, W1 = w.alloc (.cells #[.string name, .int .i64 mem, .int .i64 F, .slice A ps.length c] 24) := ⟨_, rfl⟩
  have hB : Below w.heap.size w W1 := by rw [hW1]; exact (Below.refl _ w).alloc (Nat.le_refl _) _
  have hb0 : Blk W1 w.heap.size 24 #[.string name, .int .i64 mem, .int .i64 F, .slice A ps.length c] := by rw [hW1]; exact Blk.new w 24 _
  have q3 : W1.cell? ⟨w.heap.size, 3, none⟩ = some (.slice A ps.length c) := hb0.cell 3
  obtain ⟨b, o, rfl, hb, hcp⟩ := (h.below hB) (by omega)
  have p1 : W1.cell? ⟨b, o + k * 10 + 1, none⟩ = some (.int .i64 ps[k].period) := hcp k hk 1 _ rfl
  have p2 : W1.cell? ⟨b, o + k * 10 + 2, none⟩ = some (.int .i64 ps[k].length) := hcp k hk 2 _ rfl
  have hi0 : (0 : Int) ≤ (k : Int) := by omega
  have hi1 : (k : Int) < (ps.length : Int) := by omega
  have hz := hb0.lt
  have HW1 := Lib.hid hW1
  clear hcp h hW1 hb0
  generalize ps[k].period = P at *
  generalize ps[k].length = L at *
  go_enter Try.func91, Try.ntmps91
  go_wp2_with fail
  rw [← HW1.out, show w.heap.size + 1 = W1.heap.size by rw [HW1.out]; simp]
  go_region_held3 (fun w' => w'.cell? ⟨w.heap.size, 3, none⟩ = some (.slice (some ⟨b, o, none⟩) ps.length c) ∧ w'.cell? ⟨b, o + k * 10 + 1, none⟩ = some (.int .i64 P) ∧ w'.cell? ⟨b, o + k * 10 + 2, none⟩ = some (.int .i64 L)) (go_keep) (fail)
  refine nameX fun w2 hw2 => ?_
  have hB2 : Below w.heap.size w w2 := by subst hw2; exact (hB.alloc hB.size _).drew
  have hbk : Blk w2 W1.heap.size 46 #[.int .i64 x, .int .i64 P, .int .i64 L] := by subst hw2; exact Blk.new W1 46 _
  clear hw2 p1 p2 q3
  have s0 : w2.cell? ⟨W1.heap.size, 0, none⟩ = some (.int .i64 x) := hbk.cell 0
  have s1 : w2.cell? ⟨W1.heap.size, 1, none⟩ = some (.int .i64 P) := hbk.cell 1
  have s2 : w2.cell? ⟨W1.heap.size, 2, none⟩ = some (.int .i64 L) := hbk.cell 2
  go_wp2
  refine bodyPost_ret (v := .agg #[.int .i64 x, .int .i64 P, .int .i64 L]) ?_ rfl ⟨rfl, hB2⟩
  simp [results, Try.results91, go_sem, s0, s1, s2]

/-- offsets are possible. -/
def possV (ps : List Part) (os : List Int) : Bool := decide (os.length ≤ ps.length) && (List.range os.length).all fun k => offOk ps os k
theorem possV_no {ps : List Part} {os : List Int} {k : Nat} (hk : k < os.length) (h : offOk ps os k = false) : possV ps os = false := by
  unfold possV
  rw [show (List.range os.length).all (fun k => offOk ps os k) = false from List.all_eq_false.2 ⟨k, by simpa using hk, by simpa using h⟩]
  simp

set_option maxRecDepth 100000 in
set_option maxHeartbeats 2000000 in
theorem rposs_c (name : ByteArray) (mem F : Int) (ps : List Part) (A : Option Addr) (c : Nat) (os : List Int) (Ao : Option Addr) (co : Nat) (w : World) (h : RdPart w w.heap.size A ps) (ho : RdInt w w.heap.size Ao os) (hT : timesV F ps = true) (hlo : os.length ≤ 9223372036854775807) :
    Calls Try.prog 73 #[.agg #[.string name, .int .i64 mem, .int .i64 F, .slice A ps.length c], .slice Ao os.length co] w fun e w' => e = .returned (.bool (possV ps os)) ∧ Below w.heap.size w w' := by
  obtain ⟨W1, hW1⟩ : ∃ W1, W1 = w.alloc (.cells #[.string name, .int .i64 mem, .int .i64 F, .slice A ps.length c] 24) := ⟨_, rfl⟩
  have hB : Below w.heap.size w W1 := by rw [hW1]; exact (Below.refl _ w).alloc (Nat.le_refl _) _
  have hb0 : Blk W1 w.heap.size 24 #[.string name, .int .i64 mem, .int .i64 F, .slice A ps.length c] := by rw [hW1]; exact Blk.new w 24 _
  have q3 : W1.cell? ⟨w.heap.size, 3, none⟩ = some (.slice A ps.length c) := hb0.cell 3
  have HW1 := Lib.hid hW1
  have H := Lib.hid h
  have HO := Lib.hid ho
  have HT := Lib.hid hT
  have HB := Lib.hid hB
  have Hb := Lib.hid hb0
  have h6 := (timesV_ok hT).few
  clear hW1 h ho hT hB hb0
  go_enter Try.func73, Try.ntmps73
  by_cases hn : os.length ≤ ps.length
  · have hd : decide ((os.length : Int) > (ps.length : Int)) = false := decide_eq_false (by omega)
    have hd0 : ¬ ps.length < os.length := by omega
    go_wp2_with fail
    rw [← HW1.out]
    clear q3
    go_loopw [5] (fun i wr => ∃ k : Nat, k ≤ os.length ∧ i = .int .i64 k ∧ Below W1.heap.size W1 wr ∧ Hid (∀ j, j < k → offOk ps os j = true)) (fun i _ => os.length - (intOf i).toNat)
    case atStart => exact ⟨0, Nat.zero_le _, rfl, Below.refl _ _, fun j h => absurd h (by omega)⟩
    case round =>
      obtain ⟨k, hk, rfl, hBr, hall⟩ := hrel
      have hBw := HB.out.trans (hBr.mono HB.out.size)
      by_cases hlt : k < os.length
      · have hbr := Hb.out.below hBr Hb.out.lt
        have q0 : wr.cell? ⟨w.heap.size, 0, none⟩ = some (.string name) := hbr.cell 0
        have q1 : wr.cell? ⟨w.heap.size, 1, none⟩ = some (.int .i64 mem) := hbr.cell 1
        have q2 : wr.cell? ⟨w.heap.size, 2, none⟩ = some (.int .i64 F) := hbr.cell 2
        have q3 : wr.cell? ⟨w.heap.size, 3, none⟩ = some (.slice A ps.length c) := hbr.cell 3
        have hbz := hbr.lt
        obtain ⟨b, o, rfl, hb, hcc⟩ := (HO.out.below hBw) (by omega)
        have c0 := hcc k hlt
        have hi0 : (0 : Int) ≤ (k : Int) := by omega
        have hi1 : (k : Int) < (os.length : Int) := by omega
        have hla : ∀ y : Ext wr, Calls Try.prog 77 #[.agg #[.string name, .int .i64 mem, .int .i64 F, .slice A ps.length c], .int .i64 k] y.w fun e w' => e = .returned (.int .i64 (lastP ps k)) ∧ Below y.w.heap.size y.w w' := fun y => rlast_c name mem F ps A c k y.w ((H.out.below hBw).below y.h) (by omega) HT.out
        have hec := ext_cell wr
        have hok : offOk ps os k = (decide (0 ≤ os[k]) && decide (os[k] ≤ lastP ps k)) := by simp [offOk, hlt]
        have hno : offOk ps os k = false → possV ps os = false := possV_no hlt
        have hnx : offOk ps os k = true → ∀ j, j < k + 1 → offOk ps os j = true := fun h j hj => by
          by_cases e : j = k
          · subst e; exact h
          · exact hall.out j (by omega)
        have Hok := Lib.hid hok
        have Hno := Lib.hid hno
        have Hnx := Lib.hid hnx
        have Hla := Lib.hid hla
        clear hcc hbr hok hno hnx hall hla
        generalize os[k] = x at *
        generalize lastP ps k = y0 at *
        generalize offOk ps os k = ok at *
        by_cases hx : x < 0
        · have hdx : decide (x < 0) = true := decide_eq_true hx
          have hv : ok = false := by rw [Hok.out]; simp; omega
          have Hv := Lib.hid (Hno.out hv)
          clear Hno Hnx Hok hv
          go_wp2_with fail
          refine wp_region_ext (by kernel_rfl) (by kernel_rfl) ?_
          repeat (go_big_quiet_step (fail))
          refine wpQuiet_nil ?_
          intro _ hw'
          obtain ⟨xx, hw''⟩ := hw'
          subst hw''
          have hBf := hBw.trans (xx.h.mono hBw.size)
          clear hec q0 q1 q2 q3 c0
          generalize xx.w = w9 at hBf ⊢
          go_wp2_with fail
          go_ret
          exact ⟨ret_bool Hv.out.symm, hBf⟩
        · have hdx : decide (x < 0) = false := decide_eq_false hx
          by_cases hy : x > y0
          · have hdy : decide (x > y0) = true := decide_eq_true hy
            have hv : ok = false := by rw [Hok.out]; simp; omega
            have Hv := Lib.hid (Hno.out hv)
            clear Hno Hnx Hok hv
            go_wp2_with fail
            refine wp_region_ext (by kernel_rfl) (by kernel_rfl) ?_
            repeat (go_big_quiet_step ((go_at_call 77; with_reducible exact ext_call (Hla.out _))))
            refine wpQuiet_nil ?_
            intro _ hw'
            obtain ⟨xx, hw''⟩ := hw'
            subst hw''
            have hBf := hBw.trans (xx.h.mono hBw.size)
            clear hec q0 q1 q2 q3 c0 Hla
            generalize xx.w = w9 at hBf ⊢
            go_wp2_with fail
            go_ret
            exact ⟨ret_bool Hv.out.symm, hBf⟩
          · have hdy : decide (x > y0) = false := decide_eq_false hy
            have hv : ok = true := by rw [Hok.out]; simp; omega
            have Hx := Lib.hid (Hnx.out hv)
            clear Hno Hnx Hok hv
            go_wp2_with fail
            refine wp_region_ext (by kernel_rfl) (by kernel_rfl) ?_
            repeat (go_big_quiet_step ((go_at_call 77; with_reducible exact ext_call (Hla.out _))))
            refine wpQuiet_nil ?_
            intro _ hw'
            obtain ⟨xx, hw''⟩ := hw'
            subst hw''
            have hBf := hBr.trans (xx.h.mono hBr.size)
            clear hec q0 q1 q2 q3 c0 Hla
            generalize xx.w = w9 at hBf ⊢
            go_wp2_with fail
            go_roundw
            case rel => exact ⟨k + 1, by omega, by go_num, hBf, Hx.out⟩
            case measure => simp [intOf]; omega
      · have Hv := Lib.hid (show possV ps os = true by
          unfold possV
          rw [decide_eq_true hn]
          simp only [Bool.true_and, List.all_eq_true, List.mem_range]
          exact fun j hj => hall.out j (by omega))
        clear hall
        go_wp2_with fail
        go_ret
        exact ⟨ret_bool Hv.out.symm, hBw⟩
  · have hd : decide ((os.length : Int) > (ps.length : Int)) = true := decide_eq_true (by omega)
    have hd0 : ps.length < os.length := by omega
    have Hv := Lib.hid (show possV ps os = false by simp [possV, hn])
    have hBf := HB.out
    rw [HW1.out] at hBf
    clear hn
    go_wp2_with fail
    go_ret
    exact ⟨ret_bool Hv.out.symm, hBf⟩

set_option maxRecDepth 100000 in
set_option maxHeartbeats 2000000 in
theorem rconfl_c (name : ByteArray) (mem F : Int) (ps : List Part) (A : Option Addr) (c : Nat) (os : List Int) (Ao : Option Addr) (co : Nat) (x : Int) (w : World) (h : RdPart w w.heap.size A ps) (ho : RdInt w w.heap.size Ao os) (hn : os.length < ps.length) (h6 : ps.length ≤ 6) :
    Calls Try.prog 74 #[.agg #[.string name, .int .i64 mem, .int .i64 F, .slice A ps.length c], .slice Ao os.length co, .int .i64 x] w fun e w' => e = .returned (.int .i64 (conflP ps os x)) ∧ Below w.heap.size w w' := by
  obtain ⟨W1, hW1⟩ : ∃ W1, W1 = w.alloc (.cells #[.string name, .int .i64 mem, .int .i64 F, .slice A ps.length c] 24) := ⟨_, rfl⟩
  have hB : Below w.heap.size w W1 := by rw [hW1]; exact (Below.refl _ w).alloc (Nat.le_refl _) _
  have hb0 : Blk W1 w.heap.size 24 #[.string name, .int .i64 mem, .int .i64 F, .slice A ps.length c] := by rw [hW1]; exact Blk.new w 24 _
  have HW1 := Lib.hid hW1
  have H := Lib.hid h
  have HO := Lib.hid ho
  have HB := Lib.hid hB
  have Hb := Lib.hid hb0
  clear hW1 h ho hB hb0
  go_enter Try.func74, Try.ntmps74
  go_wp2_with fail
  rw [← HW1.out]
  go_loopw [8] (fun i wr => ∃ k : Nat, k ≤ os.length ∧ i = .int .i64 k ∧ Below W1.heap.size W1 wr ∧ Hid (∀ j, j < k → clashP ps os j x = false)) (fun i _ => os.length - (intOf i).toNat)
  case atStart => exact ⟨0, Nat.zero_le _, rfl, Below.refl _ _, fun j h => absurd h (by omega)⟩
  case round =>
    obtain ⟨k, hk, rfl, hBr, hall⟩ := hrel
    have hBw := HB.out.trans (hBr.mono HB.out.size)
    by_cases hlt : k < os.length
    · have hbr := Hb.out.below hBr Hb.out.lt
      have q0 : wr.cell? ⟨w.heap.size, 0, none⟩ = some (.string name) := hbr.cell 0
      have q1 : wr.cell? ⟨w.heap.size, 1, none⟩ = some (.int .i64 mem) := hbr.cell 1
      have q2 : wr.cell? ⟨w.heap.size, 2, none⟩ = some (.int .i64 F) := hbr.cell 2
      have q3 : wr.cell? ⟨w.heap.size, 3, none⟩ = some (.slice A ps.length c) := hbr.cell 3
      have hbz := hbr.lt
      obtain ⟨b, o, rfl, hb, hcc⟩ := (HO.out.below hBw) (by omega)
      have c0 := hcc k hlt
      have hi0 : (0 : Int) ≤ (k : Int) := by omega
      have hi1 : (k : Int) < (os.length : Int) := by omega
      have hkp : k < ps.length := by omega
      have hp := H.out.below hBw
      have k1 : ∀ y : Ext wr, Calls Try.prog 91 #[.agg #[.string name, .int .i64 mem, .int .i64 F, .slice A ps.length c], .int .i64 k, .int .i64 os[k]] y.w fun e w' => e = .returned (.agg #[.int .i64 os[k], .int .i64 ps[k].period, .int .i64 ps[k].length]) ∧ Below y.w.heap.size y.w w' := fun y => rslot_c name mem F ps A c k os[k] y.w (hp.below y.h) hkp h6
      have k2 : ∀ y : Ext wr, Calls Try.prog 91 #[.agg #[.string name, .int .i64 mem, .int .i64 F, .slice A ps.length c], .int .i64 os.length, .int .i64 x] y.w fun e w' => e = .returned (.agg #[.int .i64 x, .int .i64 ps[os.length].period, .int .i64 ps[os.length].length]) ∧ Below y.w.heap.size y.w w' := fun y => rslot_c name mem F ps A c os.length x y.w (hp.below y.h) hn h6
      have k3 : ∀ y : Ext wr, Calls Try.prog 90 #[.agg #[.int .i64 os[k], .int .i64 ps[k].period, .int .i64 ps[k].length], .agg #[.int .i64 x, .int .i64 ps[os.length].period, .int .i64 ps[os.length].length]] y.w fun e w' => e = .returned (.bool (disjB ⟨os[k], ps[k].period, ps[k].length⟩ ⟨x, ps[os.length].period, ps[os.length].length⟩)) ∧ Below y.w.heap.size y.w w' := fun y => refDisj_c ⟨os[k], ps[k].period, ps[k].length⟩ ⟨x, ps[os.length].period, ps[os.length].length⟩ y.w
      have hec := ext_cell wr
      have hcl : clashP ps os k x = !disjB ⟨os[k], ps[k].period, ps[k].length⟩ ⟨x, ps[os.length].period, ps[os.length].length⟩ := by simp [clashP, pslot, hlt, hn, hkp]
      have hnx : clashP ps os k x = false → (∀ j, j < k + 1 → clashP ps os j x = false) := fun hq j hj => by
        by_cases e : j = k
        · subst e; exact hq
        · exact hall.out j (by omega)
      have hhit : clashP ps os k x = true → conflP ps os x = k := fun hq => by
        unfold conflP
        exact idxI_hit (l := List.range os.length) (k := k) (by simpa using hlt) (by simpa using hq) (fun j hj hjk => by simpa using hall.out j hjk)
      have HNx := Lib.hid hnx
      have HHit := Lib.hid hhit
      have Hcl := Lib.hid hcl
      have K1 := Lib.hid k1
      have K2 := Lib.hid k2
      have K3 := Lib.hid k3
      clear hnx hhit hcl k1 k2 k3 hcc hall hp hbr
      generalize os[k] = v0 at *
      generalize ps[k].period = v1 at *
      generalize ps[k].length = v2 at *
      generalize ps[os.length].period = v3 at *
      generalize ps[os.length].length = v4 at *
      generalize clashP ps os k x = cl at *
      generalize disjB ⟨v0, v1, v2⟩ ⟨x, v3, v4⟩ = q at *
      go_wp2_with fail
      refine wp_region_ext (by kernel_rfl) (by kernel_rfl) ?_
      repeat (go_big_quiet_step ((first | (go_at_call 91; first | with_reducible exact ext_call (K1.out _) | with_reducible exact ext_call (K2.out _)) | (go_at_call 90; with_reducible exact ext_call (K3.out _)))))
      refine wpQuiet_nil ?_
      intro _ hw'
      obtain ⟨xx, hw''⟩ := hw'
      subst hw''
      have hB2 := hBr.trans (xx.h.mono hBr.size)
      clear hec q0 q1 q2 q3 c0 K1 K2 K3
      generalize xx.w = w9 at hB2 ⊢
      cases q with
      | false =>
        have hy := Lib.hid (HHit.out Hcl.out)
        have hfin := HB.out.trans (hB2.mono HB.out.size)
        clear HNx HHit Hcl hB2
        go_wp2_with fail
        go_ret
        exact ⟨ret_int hy.out.symm, hfin⟩
      | true =>
        have Hnext := Lib.hid (HNx.out Hcl.out)
        clear HNx HHit Hcl
        go_wp2_with fail
        go_roundw
        case rel => exact ⟨k + 1, by omega, by go_num, hB2, Hnext.out⟩
        case measure => simp [intOf]; omega
    · have Hv := Lib.hid (show conflP ps os x = -1 by
        unfold conflP
        exact idxI_miss fun j hj => by simp at hj; simpa using hall.out j (by omega))
      clear hall
      go_wp2_with fail
      go_ret
      exact ⟨ret_int Hv.out.symm, hBw⟩

set_option maxRecDepth 100000 in
set_option maxHeartbeats 2000000 in
theorem rsize_c : ∀ (N : Nat) (l : List Claim), sizeL l < N → ∀ (A : Option Addr) (c : Nat) (w : World), RdK w A l → l.length ≤ 9223372036854775807 →
    Calls Try.prog 23 #[.slice A l.length c] w fun e w' => e = .returned (.int .i64 (IntKind.i64.wrap (sizeL l))) ∧ Below w.heap.size w w' := by
  intro N
  induction N with
  | zero => intro l hl; omega
  | succ N ih =>
    intro l hl A c w h hlen
    have IH := Lib.hid ih
    clear ih
    go_enter Try.func23, Try.ntmps23
    go_wp2_with fail
    go_loopw [3, 4] (fun n i wr => ∃ k : Nat, k ≤ l.length ∧ i = .int .i64 k ∧ n = .int .i64 (IntKind.i64.wrap (sizeL (l.take k))) ∧ Below w.heap.size w wr) (fun _ i _ => l.length - (intOf i).toNat)
    case atStart => exact ⟨0, Nat.zero_le _, rfl, by simp [sizeL]; decide, Below.refl _ _⟩
    case round =>
      obtain ⟨k, hk, rfl, rfl, hB⟩ := hrel
      by_cases hlt : k < l.length
      · obtain ⟨b, o, rfl, hb, hl2⟩ := RdK.keep' hB h (by omega)
        have hx := RdL.at_ l o k hlt hl2
        have hsub := sizeL_mem hlt
        have htk := sizeL_take l k hlt
        rw [Claim.subN_sub] at hsub htk
        cases hcx : l[k] with
        | mk f t wi sub =>
        rw [hcx] at hx hsub htk
        simp only [RdC] at hx
        simp only [Claim.sub] at hsub htk
        obtain ⟨c0, c1, c2, A', c', c3, hc1, hc2, hrd⟩ := hx
        have hi0 : (0 : Int) ≤ (k : Int) := by omega
        have hi1 : (k : Int) < (l.length : Int) := by omega
        have hsz := IH.out sub (by omega) A' c' wr (show RdK wr A' sub from hrd) (by unfold maxLen at hc2; omega)
        have hfin : ∀ x y : Int, x = IntKind.i64.wrap (sizeL (l.take k)) → y = IntKind.i64.wrap (sizeL sub) → wrap64 (wrap64 (x + 1) + y) = IntKind.i64.wrap (sizeL (l.take (k + 1))) := fun x y hx hy => by
          subst hx hy
          have e1 : wrap64 (IntKind.i64.wrap (sizeL (l.take k) : Int) + 1) = IntKind.i64.wrap ((sizeL (l.take k) : Int) + 1) := by
            have := wrap_add (sizeL (l.take k)) 1
            rw [show IntKind.i64.wrap 1 = 1 by decide, IntKind.wrap_i64] at this
            unfold wrap64
            exact this
          rw [e1]
          have e := wrap_add ((sizeL (l.take k) : Int) + 1) (sizeL sub)
          rw [IntKind.wrap_i64] at e
          unfold wrap64
          rw [e]
          congr 1
          rw [htk]
          omega
        obtain ⟨x, hx⟩ : ∃ x, x = IntKind.i64.wrap (sizeL (l.take k)) := ⟨_, rfl⟩
        obtain ⟨y, hy⟩ : ∃ y, y = IntKind.i64.wrap (sizeL sub) := ⟨_, rfl⟩
        have Hf := Lib.hid (hfin x y hx hy)
        rw [← hx]
        rw [← hy] at hsz
        clear hl2 h hcx hrd hfin hx hy htk hsub
        go_wp2_with fail
        refine hsz.mono ?_
        rintro e w2 ⟨rfl, hb2⟩
        have hB2 : Below w.heap.size w w2 := hB.trans (hb2.mono hB.size)
        clear hsz c0 c1 c2 c3 hB hb2 hi0 hi1
        go_wp2
        go_roundw
        case rel => exact ⟨k + 1, by omega, by go_num, by rw [← Hf.out], hB2⟩
        case measure => simp [intOf]; omega
      · obtain rfl : k = l.length := by omega
        rw [List.take_length]
        obtain ⟨x, hx⟩ : ∃ x, x = IntKind.i64.wrap (sizeL l) := ⟨_, rfl⟩
        rw [← hx]
        have Hx := Lib.hid hx
        clear hlt h hl hx
        go_wp2
        go_ret
        exact ⟨ret_int Hx.out, hB⟩
end Go.Proofs.Ytlmbffnmjfbglab
