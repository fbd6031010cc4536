/- Texts E8 E9 F0, joined. -/
import Derived.Deep.RegionWith
import Derived.Shelf.SlSortCmp.NoneTotal
import Derived.Test.YtknojjlfgjkbiaaGreatDoorH09
import Derived.Test.YtknojjlfgjkbiaaGreatDoorH10
set_option linter.unusedSimpArgs false
set_option linter.unusedVariables false
set_option linter.unusedSectionVars false
/- The comparator of reports. -/
namespace Go.Proofs.YtknojjlfgjkbiaaGreatDoor
open Go.ChangeShapes Go.WideShapes Go.ChangeAt Go.RowKit Go.Sort
attribute [local go_sem] Oper.semAt_some

theorem bl_irrefl : ∀ l : List UInt8, Op.bytesLess l l = false
  | [] => rfl
  | a :: l => by simp [Op.bytesLess, bl_irrefl l]
theorem bl_trans : ∀ a b c : List UInt8, Op.bytesLess a b = true → Op.bytesLess b c = true → Op.bytesLess a c = true
  | _, [], _, h, _ => by simp [Op.bytesLess] at h
  | _, _ :: _, [], _, h => by simp [Op.bytesLess] at h
  | [], _ :: _, _ :: _, _, _ => rfl
  | a :: x, b :: y, c :: z, h1, h2 => by
    simp only [Op.bytesLess, Bool.or_eq_true, decide_eq_true_eq, Bool.and_eq_true, beq_iff_eq] at h1 h2 ⊢
    rcases h1 with h1 | ⟨rfl, h1⟩
    · rcases h2 with h2 | ⟨rfl, h2⟩
      · exact .inl (UInt8.lt_trans h1 h2)
      · exact .inl h1
    · rcases h2 with h2 | ⟨rfl, h2⟩
      · exact .inl h2
      · exact .inr ⟨rfl, bl_trans x y z h1 h2⟩
theorem bl_tri : ∀ a b : List UInt8, Op.bytesLess a b = false → Op.bytesLess b a = false → a = b
  | [], [], _, _ => rfl
  | [], _ :: _, h, _ => by simp [Op.bytesLess] at h
  | _ :: _, [], _, h => by simp [Op.bytesLess] at h
  | a :: x, b :: y, h1, h2 => by
    simp only [Op.bytesLess, Bool.or_eq_false_iff, decide_eq_false_iff_not, Bool.and_eq_false_iff] at h1 h2
    have hab : a = b := UInt8.le_antisymm (UInt8.not_lt.1 h2.1) (UInt8.not_lt.1 h1.1)
    subst hab
    have h3 : Op.bytesLess x y = false := by rcases h1.2 with h | h; · simp at h
                                             · exact h
    have h4 : Op.bytesLess y x = false := by rcases h2.2 with h | h; · simp at h
                                             · exact h
    rw [bl_tri x y h3 h4]
def ltS (x y : ByteArray) : Bool := Op.bytesLess x.toList y.toList
def cmpS (x y : ByteArray) : Int := if ltS x y then -1 else if x = y then 0 else 1
def cmpI (x y : Int) : Int := if x < y then -1 else if x = y then 0 else 1
/-- the order of reports. -/
def repLt (x y : Rep) : Bool := ltS x.unit y.unit || (decide (x.unit = y.unit) && decide (x.code < y.code))
def repCmp (x y : Rep) : Int := if cmpS x.unit y.unit ≠ 0 then cmpS x.unit y.unit else cmpI x.code y.code
theorem ltS_irrefl (x : ByteArray) : ltS x x = false := bl_irrefl _
theorem ltS_trans {x y z : ByteArray} (h : ltS x y = true) (k : ltS y z = true) : ltS x z = true := bl_trans _ _ _ h k
theorem ltS_tri {x y : ByteArray} (h : ltS x y = false) (k : ltS y x = false) : x = y := by
  have e := bl_tri _ _ h k
  rw [ByteArray.toList_eq, ByteArray.toList_eq] at e
  exact ByteArray.ext (Array.toList_inj.1 e)
theorem repCmp_lt (x y : Rep) : decide (repCmp x y < 0) = repLt x y := by
  unfold repCmp repLt cmpS cmpI
  by_cases h1 : ltS x.unit y.unit = true
  · simp [h1]
  · by_cases h2 : x.unit = y.unit
    · by_cases h3 : x.code < y.code
      · simp [h1, h2, h3, ltS_irrefl]
      · by_cases h4 : x.code = y.code <;> simp [h1, h2, h3, h4, ltS_irrefl]
    · simp [h1, h2]
theorem repLt_irrefl (x : Rep) : repLt x x = false := by simp [repLt, ltS_irrefl]
theorem repLt_trans {x y z : Rep} (h : repLt x y = true) (k : repLt y z = true) : repLt x z = true := by
  simp only [repLt, Bool.or_eq_true, Bool.and_eq_true, decide_eq_true_eq] at h k ⊢
  rcases h with h | ⟨h, h'⟩
  · rcases k with k | ⟨k, k'⟩
    · exact .inl (ltS_trans h k)
    · exact .inl (k ▸ h)
  · rcases k with k | ⟨k, k'⟩
    · exact .inl (h ▸ k)
    · exact .inr ⟨h.trans k, by omega⟩
theorem repLt_tri {x y : Rep} (h : repLt x y = false) (k : repLt y x = false) : x = y := by
  simp only [repLt, Bool.or_eq_false_iff, Bool.and_eq_false_iff, decide_eq_false_iff_not] at h k
  have hu := ltS_tri h.1 k.1
  obtain ⟨xu, xc⟩ := x
  obtain ⟨yu, yc⟩ := y
  simp only at h k hu
  subst hu
  have h2 : ¬ xc < yc := by rcases h.2 with h | h; · exact absurd rfl h
                            · exact h
  have k2 : ¬ yc < xc := by rcases k.2 with h | h; · exact absurd rfl h
                            · exact h
  rw [show xc = yc by omega]
theorem ltOf_rep : Go.Proofs.ltOf repCmp = repLt := by
  funext x y
  exact repCmp_lt x y
theorem swo_rep : SWO (Go.Proofs.ltOf repCmp) := by
  rw [ltOf_rep]
  refine ⟨repLt_irrefl, fun x y z => repLt_trans, fun x y z h k => ?_⟩
  cases hxz : repLt x z with
  | false => rfl
  | true =>
    cases hyx : repLt y x with
    | true => rw [repLt_trans hyx hxz] at k; cases k
    | false =>
      obtain rfl := repLt_tri h hyx
      rw [hxz] at k; cases k
theorem nan9_c (s : ByteArray) (w : World) : Calls Tryz.prog 97 #[.string s] w fun e w' => e = .returned (.bool false) ∧ w = w' := by
  go_enter Tryz.func97, Tryz.ntmps97
  go_wp2
  go_ret
  exact ⟨rfl, rfl⟩
theorem nan3_c (x : Int) (w : World) : Calls Tryz.prog 98 #[.int .i64 x] w fun e w' => e = .returned (.bool false) ∧ w = w' := by
  have e1 : (x != x) = false := by simp
  go_enter Tryz.func98, Tryz.ntmps98
  go_wp2
  go_ret
  exact ⟨rfl, rfl⟩
theorem cmpS_c (x y : ByteArray) (w : World) : Calls Tryz.prog 70 #[.string x, .string y] w fun e w' => e = .returned (.int .i64 (cmpS x y)) ∧ w = w' := by
  by_cases h1 : Op.bytesLess x.toList y.toList = true
  · have hx : Hid (cmpS x y = -1) := by simp [cmpS, Hid, ltS, h1]
    go_enter Tryz.func70, Tryz.ntmps70
    go_wp2_with (go_at_call 97; refine (nan9_c _ _).mono ?_; rintro e w' ⟨rfl, rfl⟩)
    go_ret
    exact ⟨ret_int hx.out.symm, rfl⟩
  · have h1 : Op.bytesLess x.toList y.toList = false := by simpa using h1
    by_cases h2 : x = y
    · have hx : Hid (cmpS x y = 0) := by simp [cmpS, Hid, ltS, h1, h2, bl_irrefl]
      have h3 := str_eq h2
      clear h2
      go_enter Tryz.func70, Tryz.ntmps70
      go_wp2_with (go_at_call 97; refine (nan9_c _ _).mono ?_; rintro e w' ⟨rfl, rfl⟩)
      go_ret
      exact ⟨ret_int hx.out.symm, rfl⟩
    · have hx : Hid (cmpS x y = 1) := by simp [cmpS, Hid, ltS, h1, h2]
      have h3 := str_ne h2
      clear h2
      go_enter Tryz.func70, Tryz.ntmps70
      go_wp2_with (go_at_call 97; refine (nan9_c _ _).mono ?_; rintro e w' ⟨rfl, rfl⟩)
      go_ret
      exact ⟨ret_int hx.out.symm, rfl⟩
theorem cmpI_c (x y : Int) (w : World) : Calls Tryz.prog 71 #[.int .i64 x, .int .i64 y] w fun e w' => e = .returned (.int .i64 (cmpI x y)) ∧ w = w' := by
  by_cases h1 : x < y
  · have hx : Hid (cmpI x y = -1) := by simp [cmpI, Hid, h1]
    go_enter Tryz.func71, Tryz.ntmps71
    go_wp2_with (go_at_call 98; refine (nan3_c _ _).mono ?_; rintro e w' ⟨rfl, rfl⟩)
    go_ret
    exact ⟨ret_int hx.out.symm, rfl⟩
  · by_cases h2 : x = y
    · subst h2
      have hx : Hid (cmpI x x = 0) := by simp [cmpI, Hid]
      go_enter Tryz.func71, Tryz.ntmps71
      go_wp2_with (go_at_call 98; refine (nan3_c _ _).mono ?_; rintro e w' ⟨rfl, rfl⟩)
      go_ret
      exact ⟨ret_int hx.out.symm, rfl⟩
    · have hx : Hid (cmpI x y = 1) := by simp [cmpI, Hid, h1, h2]
      have e3 : y < x := by omega
      go_enter Tryz.func71, Tryz.ntmps71
      go_wp2_with (go_at_call 98; refine (nan3_c _ _).mono ?_; rintro e w' ⟨rfl, rfl⟩)
      go_ret
      exact ⟨ret_int hx.out.symm, rfl⟩
theorem or_c (a b : Int) (g : Nat) (w : World) (ha : w.cell? ⟨g, 0, none⟩ = some (.int .i64 a)) (hb : w.cell? ⟨g, 1, none⟩ = some (.int .i64 b)) :
    Calls Tryz.prog 69 #[.slice (some ⟨g, 0, none⟩) 2 2] w fun e w' => e = .returned (.int .i64 (if a ≠ 0 then a else b)) ∧ w = w' := by
  obtain ⟨r, hr⟩ : ∃ r, r = if a ≠ 0 then a else b := ⟨_, rfl⟩
  rw [← hr]
  have hra : a ≠ 0 → r = a := fun h => by rw [hr, if_pos h]
  have hrb : a = 0 → r = b := fun h => by rw [hr, if_neg (fun hn => hn h)]
  have Ha := Lib.hid hra
  have Hb := Lib.hid hrb
  clear hr hra hrb
  go_enter Tryz.func69, Tryz.ntmps69
  go_wp2
  go_loopw [8] (fun t wr => ∃ k : Nat, k ≤ 2 ∧ t = .int .i64 k ∧ wr = w ∧ (0 < k → a = 0) ∧ (1 < k → b = 0)) (fun t wr => 2 - (intOf t).toNat)
  case atStart => exact ⟨0, by omega, rfl, rfl, fun h => absurd h (by omega), fun h => absurd h (by omega)⟩
  case round =>
    obtain ⟨k, hk, rfl, rfl, ka, kb⟩ := hrel
    have Ka := Lib.hid ka
    have Kb := Lib.hid kb
    clear ka kb
    have h3 : k = 0 ∨ k = 1 ∨ k = 2 := by omega
    rcases h3 with rfl | rfl | rfl
    · by_cases h1 : a = 0
      · subst h1
        go_wp2
        go_roundw
        case rel => exact ⟨1, by omega, by simp⟩
        case measure => simp [intOf]
      · have h2 : (a != 0) = true := by simpa using h1
        have hh := Lib.hid (Ha.out h1)
        clear h1
        go_wp2
        go_ret
        exact ⟨ret_int hh.out.symm, rfl⟩
    · by_cases h1 : b = 0
      · subst h1
        go_wp2
        go_roundw
        case rel => have := Ka.out (by omega); exact ⟨2, by omega, by simp [this]⟩
        case measure => simp [intOf]
      · have h2 : (b != 0) = true := by simpa using h1
        have hh := Lib.hid (Hb.out (Ka.out (by omega)))
        clear h1
        go_wp2
        go_ret
        exact ⟨ret_int hh.out.symm, rfl⟩
    · have hh := Lib.hid ((Hb.out (Ka.out (by omega))).trans (Kb.out (by omega)))
      go_wp2
      go_ret
      exact ⟨ret_int hh.out.symm, rfl⟩
theorem grow_three (w : World) (a b c : Obj) : ((w.alloc a).alloc b).drew.alloc c = grow (w.drewN 1) #[a, b, c] := by
  rw [alloc_eq_grow, show ((w.alloc a).alloc b).drew = grow (w.drewN 1) #[a, b] from by rw [alloc_eq_grow, alloc_eq_grow, grow_grow]; rfl, grow_grow]; rfl
set_option maxRecDepth 100000 in
theorem repCmp_c (r s : Rep) (W : World) : Calls Tryz.prog 68 #[.agg #[.string r.unit, .int .i64 r.code], .agg #[.string s.unit, .int .i64 s.code]] W fun e w' => e = .returned (.int .i64 (repCmp r s)) ∧ ∃ q os', w' = grow (W.drewN q) os' := by
  have hs := fun W' => cmpS_c r.unit s.unit W'
  have hi := fun W' => cmpI_c r.code s.code W'
  have ho := fun g W' h1 h2 => or_c (cmpS r.unit s.unit) (cmpI r.code s.code) g W' h1 h2
  unfold repCmp
  generalize cmpS r.unit s.unit = c1 at *
  generalize cmpI r.code s.code = c2 at *
  obtain ⟨c3, hc3⟩ : ∃ c3, c3 = if c1 ≠ 0 then c1 else c2 := ⟨_, rfl⟩
  rw [← hc3] at ho ⊢
  clear hc3
  obtain ⟨W1, hW1⟩ : ∃ W1, W1 = (W.alloc (.cells #[.string r.unit, .int .i64 r.code] 32)).alloc (.cells #[.string s.unit, .int .i64 s.code] 32) := ⟨_, rfl⟩
  have b0 : Blk W1 W.heap.size 32 #[.string r.unit, .int .i64 r.code] := by rw [hW1]; exact (Blk.new W _ _).alloc _
  have b1 : Blk W1 (W.heap.size + 1) 32 #[.string s.unit, .int .i64 s.code] := by
    rw [hW1]
    have := Blk.new (W.alloc (.cells #[.string r.unit, .int .i64 r.code] 32)) 32 #[.string s.unit, .int .i64 s.code]
    rwa [World.size_alloc] at this
  have hHeld : W1.drew.cell? ⟨W.heap.size, 0, none⟩ = some (.string r.unit) ∧ W1.drew.cell? ⟨W.heap.size, 1, none⟩ = some (.int .i64 r.code) ∧ W1.drew.cell? ⟨W.heap.size + 1, 0, none⟩ = some (.string s.unit) ∧ W1.drew.cell? ⟨W.heap.size + 1, 1, none⟩ = some (.int .i64 s.code) := ⟨b0.cell 0, b0.cell 1, b1.cell 0, b1.cell 1⟩
  have HW1 := Lib.hid hW1
  clear b0 b1
  go_enter Tryz.func68, Tryz.ntmps68
  go_wp2_with fail
  rw [← hW1]
  clear hW1
  refine wp_region_S (fun W' => W'.cell? ⟨W.heap.size, 0, none⟩ = some (.string r.unit) ∧ W'.cell? ⟨W.heap.size, 1, none⟩ = some (.int .i64 r.code) ∧ W'.cell? ⟨W.heap.size + 1, 0, none⟩ = some (.string s.unit) ∧ W'.cell? ⟨W.heap.size + 1, 1, none⟩ = some (.int .i64 s.code)) 12 (by kernel_rfl) hHeld (fun hHeld => ?_)
  refine wpAnyS_take (i := 0) (v := ?_) rfl (by kernel_rfl) (by kernel_rfl) (by kernel_rfl) (by kernel_rfl) (fun c a w h => h) (Or.inl ⟨by rfl, ?_⟩) hHeld ?_
  rotate_left
  · intro w hSw
    (try obtain ⟨hSw1, hSw2, hSw3, hSw4⟩ := hSw)
    go_simp
    first | done | with_reducible rfl
  simp only [Act.put, List.setIfInBounds_toArray, List.set_cons_zero, List.set_cons_succ]
  refine wpAnyS_take (i := 1) (v := ?_) rfl (by kernel_rfl) (by kernel_rfl) (by kernel_rfl) (by kernel_rfl) (fun c a w h => h) (Or.inl ⟨by rfl, ?_⟩) hHeld ?_
  rotate_left
  · intro w hSw
    (try obtain ⟨hSw1, hSw2, hSw3, hSw4⟩ := hSw)
    go_simp
    first | done | with_reducible rfl
  simp only [Act.put, List.setIfInBounds_toArray, List.set_cons_zero, List.set_cons_succ]
  refine wpAnyS_take (i := 2) (v := ?_) rfl (by kernel_rfl) (by kernel_rfl) (by kernel_rfl) (by kernel_rfl) (fun c a w h => h) (Or.inl ⟨by rfl, ?_⟩) hHeld ?_
  rotate_left
  · intro w hSw
    (try obtain ⟨hSw1, hSw2, hSw3, hSw4⟩ := hSw)
    go_simp
    first | done | with_reducible rfl
  simp only [Act.put, List.setIfInBounds_toArray, List.set_cons_zero, List.set_cons_succ]
  refine wpAnyS_take (i := 3) (v := ?_) rfl (by kernel_rfl) (by kernel_rfl) (by kernel_rfl) (by kernel_rfl) (fun c a w h => h) (Or.inl ⟨by rfl, ?_⟩) hHeld ?_
  rotate_left
  · intro w hSw
    (try obtain ⟨hSw1, hSw2, hSw3, hSw4⟩ := hSw)
    go_simp
    first | done | with_reducible rfl
  simp only [Act.put, List.setIfInBounds_toArray, List.set_cons_zero, List.set_cons_succ]
  refine wpAnyS_take (i := 5) (v := ?_) rfl (by kernel_rfl) (by kernel_rfl) (by kernel_rfl) (by kernel_rfl) (fun c a w h => h) (Or.inl ⟨by rfl, ?_⟩) hHeld ?_
  rotate_left
  · intro w hSw
    (try obtain ⟨hSw1, hSw2, hSw3, hSw4⟩ := hSw)
    go_simp
    first | done | with_reducible rfl
  simp only [Act.put, List.setIfInBounds_toArray, List.set_cons_zero, List.set_cons_succ]
  refine wpAnyS_take (i := 6) (v := ?_) rfl (by kernel_rfl) (by kernel_rfl) (by kernel_rfl) (by kernel_rfl) (fun c a w h => h) (Or.inl ⟨by rfl, ?_⟩) hHeld ?_
  rotate_left
  · intro w hSw
    (try obtain ⟨hSw1, hSw2, hSw3, hSw4⟩ := hSw)
    go_simp
    first | done | with_reducible rfl
  simp only [Act.put, List.setIfInBounds_toArray, List.set_cons_zero, List.set_cons_succ]
  refine wpAnyS_take (i := 7) (v := ?_) rfl (by kernel_rfl) (by kernel_rfl) (by kernel_rfl) (by kernel_rfl) (fun c a w h => h) (Or.inl ⟨by rfl, ?_⟩) hHeld ?_
  rotate_left
  · intro w hSw
    (try obtain ⟨hSw1, hSw2, hSw3, hSw4⟩ := hSw)
    go_simp
    first | done | with_reducible rfl
  simp only [Act.put, List.setIfInBounds_toArray, List.set_cons_zero, List.set_cons_succ]
  refine wpAnyS_take (i := 8) (v := ?_) rfl (by kernel_rfl) (by kernel_rfl) (by kernel_rfl) (by kernel_rfl) (fun c a w h => h) (Or.inl ⟨by rfl, ?_⟩) hHeld ?_
  rotate_left
  · intro w hSw
    (try obtain ⟨hSw1, hSw2, hSw3, hSw4⟩ := hSw)
    go_simp
    first | done | with_reducible rfl
  simp only [Act.put, List.setIfInBounds_toArray, List.set_cons_zero, List.set_cons_succ]
  have hz1 : (W1.drew).heap.size = W1.heap.size := rfl
  have n0 : (W1.drew.alloc (.cells #[.int .i64 c1, .int .i64 c2] 3)).cell? ⟨W1.heap.size, 0, none⟩ = some (.int .i64 c1) := (Blk.new W1.drew 3 #[.int .i64 c1, .int .i64 c2]).cell 0
  have n1 : (W1.drew.alloc (.cells #[.int .i64 c1, .int .i64 c2] 3)).cell? ⟨W1.heap.size, 1, none⟩ = some (.int .i64 c2) := (Blk.new W1.drew 3 #[.int .i64 c1, .int .i64 c2]).cell 1
  have hal := fun (p : Addr) (x : Value) (hp : W1.drew.cell? p = some x) => (World.cell?_alloc_lt W1.drew (.cells #[.int .i64 c1, .int .i64 c2] 3) p (World.block_lt_of_cell? _ _ hp)).trans hp
  have hHeld2 := And.intro (hal _ _ hHeld.1) (And.intro (hal _ _ hHeld.2.1) (And.intro (hal _ _ hHeld.2.2.1) (hal _ _ hHeld.2.2.2)))
  clear hal
  refine wpAnyS_ready (rs := [4]) (by kernel_rfl) (by simp) ?_
  refine AllReadyS.cons rfl (fun K hK => ?_) AllReadyS.nil
  go_simp
  refine (hs _).mono ?_
  rintro e w' ⟨rfl, hw'⟩
  subst hw'
  refine hK.out _ _ (fun _ => hHeld) ?_
  clear hK
  refine wpAnyS_ready (rs := [9]) (by kernel_rfl) (by simp) ?_
  refine AllReadyS.cons rfl (fun K hK => ?_) AllReadyS.nil
  go_simp
  refine (hi _).mono ?_
  rintro e w' ⟨rfl, hw'⟩
  subst hw'
  refine hK.out _ _ (fun _ => hHeld) ?_
  clear hK
  refine wpAnyS_ready (rs := [10]) (by kernel_rfl) (by simp) ?_
  refine AllReadyS.cons rfl (fun K hK => ?_) AllReadyS.nil
  go_simp
  refine hK.out _ _ (fun _ => hHeld2) ?_
  clear hK
  refine wpAnyS_ready (rs := [11]) (by kernel_rfl) (by simp) ?_
  refine AllReadyS.cons rfl (fun K hK => ?_) AllReadyS.nil
  go_simp
  refine (ho _ _ n0 n1).mono ?_
  rintro e w' ⟨rfl, hw'⟩
  subst hw'
  refine hK.out _ _ (fun _ => hHeld2) ?_
  clear hK
  refine wpAnyS_ready (rs := [12]) (by kernel_rfl) (by simp) ?_
  refine AllReadyS.cons rfl (fun K hK => ?_) AllReadyS.nil
  go_simp
  refine hK.out _ _ (fun h => absurd h (by decide)) ?_
  refine wpAnyS_done (by kernel_rfl) ?_ _
  clear hK
  go_wp2_with fail
  go_ret
  exact ⟨rfl, 1, #[.cells #[.string r.unit, .int .i64 r.code] 32, .cells #[.string s.unit, .int .i64 s.code] 32, .cells #[.int .i64 c1, .int .i64 c2] 3], by rw [HW1.out]; exact grow_three _ _ _ _⟩
end Go.Proofs.YtknojjlfgjkbiaaGreatDoor
/- slices.SortFunc at reports; SortedFunc; sorted. -/
namespace Go.Proofs.YtknojjlfgjkbiaaGreatDoor
open Go.ChangeShapes Go.WideShapes Go.ChangeAt Go.RowKit Go.Sort
attribute [local go_sem] Oper.semAt_some

instance : Inhabited Rep := ⟨⟨⟨#[]⟩, 0⟩⟩
theorem flat2_get (l : List Rep) (t : Nat) (ht : t < l.length * 2) : (l.flatMap Rep.cells)[t]? = some ((flatK Rep.cells 2 l.toArray)[t]!) := by
  rw [get_flatK Rep.cells 2 l.toArray t (by simpa using ht)]
  have h1 : t / 2 < l.length := by omega
  rw [show (l.toArray)[t / 2]! = l[t / 2] from by simp [h1]]
  obtain ⟨q0, q1⟩ := cells2_get l (t / 2) h1
  have h3 : t % 2 = 0 ∨ t % 2 = 1 := by omega
  rcases h3 with e | e
  · have : t = t / 2 * 2 := by omega
    rw [e]
    conv => lhs; rw [this]
    rw [q0]; rfl
  · have : t = t / 2 * 2 + 1 := by omega
    rw [e]
    conv => lhs; rw [this]
    rw [q1]; rfl
theorem own_holds {w : World} {base g cap : Nat} {l : List Rep} (h : w.ownsRow base 32 2 (.slice (some ⟨g, 0, none⟩) l.length cap) l.length (l.flatMap Rep.cells)) : HoldsK Rep.cells 2 w g 0 l.toArray := by
  intro t ht
  have ht' : t < l.length * 2 := by simpa using ht
  rw [Nat.zero_add]
  have hc := h.cells (g := g) rfl t _ (flat2_get l t ht')
  rw [add_none] at hc
  refine ⟨by simpa using hc, ?_⟩
  have := h.frozenAt t
  simpa using this
theorem own_sorted {w : World} {base g cap : Nat} {l : List Rep} (h : w.ownsRow base 32 2 (.slice (some ⟨g, 0, none⟩) l.length cap) l.length (l.flatMap Rep.cells)) (n : Nat) (d : Array Rep) (hd : d.size = l.length) (os : Array Obj) :
    (sortWorldK Rep.cells 2 w g 0 n d os).ownsRow base 32 2 (.slice (some ⟨g, 0, none⟩) l.length cap) l.length (d.toList.flatMap Rep.cells) ∧ w.grownBy (sortWorldK Rep.cells 2 w g 0 n d os) (some g) := by
  rcases h.2 with ⟨h0, _⟩ | ⟨g', cap', cur, hv, hb, hh, hlc, hcm, hsz, htk⟩
  · cases h0
  injection hv with hv1 hv2 hv3
  injection hv1 with hv1
  injection hv1 with hv1
  subst hv1 hv3
  have hg : g < w.heap.size := Blk.lt (t := 32) hh
  have hW : (sortWorldK Rep.cells 2 w g 0 n d os).heap = (w.heap.modify g (onCells (putCells id 0 (flatK Rep.cells 2 d)))) ++ os := rfl
  refine ⟨⟨by rw [cells2_length]; simp [hd], .inr ⟨g, cap, putCells id 0 (flatK Rep.cells 2 d) cur, rfl, hb, ?_, hlc, hcm, ?_, ?_⟩⟩, ⟨rfl, rfl, rfl, ?_, ?_⟩⟩
  · rw [hW, Array.getElem?_append_left (by simpa using hg), Array.getElem?_modify]
    simp [hh, onCells]
  · simp [putCells, hsz]
  · have key : ∀ t, t < d.size * 2 → (putCells id 0 (flatK Rep.cells 2 d) cur)[t]? = some ((flatK Rep.cells 2 d)[t]!) := by
      intro t ht
      have htc : t < cur.size := by rw [hsz]; exact Nat.lt_of_lt_of_le ht (Nat.mul_le_mul_right 2 (by omega))
      simp [putCells, htc, ht]
    apply List.ext_getElem?
    intro t
    by_cases ht : t < l.length * 2
    · rw [List.getElem?_take_of_lt ht, Array.getElem?_toList, key t (by omega)]
      have := flat2_get d.toList t (by simpa [hd] using ht)
      rw [this]
    · rw [List.getElem?_eq_none (by simp; omega), List.getElem?_eq_none (by rw [cells2_length]; simp [hd]; omega)]
  · rw [hW]; simp
  · intro k hk hne
    rw [hW, Array.getElem?_append_left (by simpa using hk), Array.getElem?_modify]
    rw [if_neg (fun e => hne (by rw [e]))]
/-- ascending. -/
def Asc (l : List Rep) : Prop := ∀ i j (h : i < j) (hj : j < l.length), repLt l[j] l[i] = false
theorem sort_c (base g cap : Nat) (l : List Rep) (w : World) (h : w.ownsRow base 32 2 (.slice (some ⟨g, 0, none⟩) l.length cap) l.length (l.flatMap Rep.cells)) (hl : l.length ≤ 100000000) :
    Calls Tryz.prog 95 #[.slice (some ⟨g, 0, none⟩) l.length cap, .func (.func 68) #[] #[]] w fun e w' => e = .returned (.tuple #[]) ∧ ∃ l' : List Rep, l'.Perm l ∧ Asc l' ∧ w'.ownsRow base 32 2 (.slice (some ⟨g, 0, none⟩) l.length cap) l.length (l'.flatMap Rep.cells) ∧ w.grownBy w' (some g) := by
  have hg : g < w.heap.size := (h.lt g rfl).2
  have hp := Go.Proofs.AnyQ.slices_SortFunc Go.Proofs.Tryz.sortReps 2 Go.Proofs.Tryz.isAgg32 Go.Proofs.Tryz.sizeOf32 Rep.cells (fun _ => rfl) (fun x v hv => by simp [Rep.cells] at hv; rcases hv with rfl | rfl <;> rfl) repCmp swo_rep 68 #[] g 0 cap l.toArray w
    (enters_of Tryz.func68 (by kernel_rfl) rfl) (fun m os dk _ x y => repCmp_c x y _) (own_holds h) hg (by simp; omega)
  simp only [List.size_toArray] at hp
  refine hp.mono ?_
  rintro e w' ⟨rfl, d, n, os, ⟨hsz, _, hperm⟩, hsort, rfl⟩
  have hsz' : d.size = l.length := by simpa using hsz
  obtain ⟨h1, h2⟩ := own_sorted h n d hsz' os
  refine ⟨rfl, d.toList, ?_, ?_, h1, h2⟩
  · have e : d.extract 0 l.length = d := by rw [← hsz']; simp
    have e2 : (l.toArray.extract 0 l.length).toList = l := by simp
    rw [e, e2] at hperm
    exact hperm
  · intro i j hij hj
    have hj' : j < d.size := by simpa using hj
    have := hsort i j (Nat.zero_le _) hij (by omega)
    rw [getElem!_pos d i (by omega), getElem!_pos d j hj', ltOf_rep] at this
    simpa using this
end Go.Proofs.YtknojjlfgjkbiaaGreatDoor
/- sorted: a map's reports, ascending. -/
namespace Go.Proofs.YtknojjlfgjkbiaaGreatDoor
open Go.ChangeShapes Go.WideShapes Go.ChangeAt Go.RowKit
attribute [local go_sem] Oper.semAt_some

/-- what collect hands back: the keys, in a row of the call's own. -/
def Coll (w : World) (ks : List Rep) (e : Ending) (w' : World) : Prop := ∃ (v : Value) (xs : List Rep), e = .returned v ∧ (xs.Nodup ∧ ∀ x, x ∈ xs ↔ x ∈ ks) ∧ w'.ownsRow (w.heap.size + 1) 32 2 v xs.length (xs.flatMap Rep.cells) ∧ Below w.heap.size w w'
theorem collect_c (Bm b n : Nat) (ks : List Rep) (f : Rep → Int) (w : World) (hBm : Blk w Bm 83 #[.map (some b)]) (hO : OnMap KR w b n ks f) (hl : ks.length ≤ 100000000) :
    Calls Tryz.prog 94 #[.func (.func 96) #[] #[.pointer (some ⟨Bm, 0, none⟩)]] w (Coll w ks) := by
  have h := appendSeq_c Bm b n ks f w hBm hO hl
  have Hh := Lib.hid h
  clear h hBm hO
  go_enter Tryz.func94, Tryz.ntmps94
  go_wp2_with fail
  refine Hh.out.mono ?_
  rintro e w' ⟨v, xs, rfl, hx, hown, hb⟩
  obtain ⟨A', c', rfl, _⟩ := own_caps hown
  have HR := Lib.hid (And.intro hx (And.intro hown hb))
  clear hx hown hb Hh
  go_wp2_with fail
  go_ret
  exact ⟨_, xs, rfl, HR.out⟩
theorem sort_nil_c (c : Nat) (w : World) : Calls Tryz.prog 95 #[.slice none 0 c, .func (.func 68) #[] #[]] w fun e w' => e = .returned (.tuple #[]) ∧ w' = w :=
  Go.Proofs.AnyF.slices_SortFunc_none Go.Proofs.Tryz.sortReps none c (.func (.func 68) #[] #[]) w
/-- what sorted hands back. -/
def SortedR (w : World) (ks : List Rep) (e : Ending) (w' : World) : Prop := ∃ A' c' l, e = .returned (.slice A' l.length c') ∧ l.Nodup ∧ (∀ x, x ∈ l ↔ x ∈ ks) ∧ Asc l ∧ RdRep w' w'.heap.size A' l ∧ Below w.heap.size w w'
theorem asc_nil : Asc [] := fun i j _ hj => absurd hj (by simp)
theorem sortedFunc_c (Bm b n : Nat) (ks : List Rep) (f : Rep → Int) (w : World) (hBm : Blk w Bm 83 #[.map (some b)]) (hO : OnMap KR w b n ks f) (hl : ks.length ≤ 100000000) :
    Calls Tryz.prog 66 #[.func (.func 96) #[] #[.pointer (some ⟨Bm, 0, none⟩)], .func (.func 68) #[] #[]] w (SortedR w ks) := by
  have h := collect_c Bm b n ks f w hBm hO hl
  have Hh := Lib.hid h
  clear h hBm hO
  go_enter Tryz.func66, Tryz.ntmps66
  go_wp2_with fail
  refine Hh.out.mono ?_
  rintro e w1 ⟨v, xs, rfl, hx, hown, hb⟩
  have hxl : xs.length ≤ 100000000 := Nat.le_trans (len_le xs ks hx.1 fun x h => (hx.2 x).1 h) hl
  rcases Nat.eq_zero_or_pos xs.length with h0 | h0
  · have hx0 : xs = [] := List.eq_nil_of_length_eq_zero h0
    subst hx0
    rcases hown.2 with ⟨rfl, _⟩ | ⟨g, cap, cur, rfl, hg, hh, hc⟩
    · have HR := Lib.hid (And.intro hx hb)
      clear hx hown hb Hh
      go_wp2_with fail
      refine (sort_nil_c 0 w1).mono ?_
      rintro e w2 ⟨rfl, rfl⟩
      go_wp2_with fail
      go_ret
      exact ⟨none, 0, [], rfl, HR.out.1.1, HR.out.1.2, asc_nil, RdRep.nil, HR.out.2⟩
    · have hs := sort_c _ g cap [] w1 hown (by simp)
      have HS := Lib.hid hs
      have HR := Lib.hid (And.intro hx hb)
      have hg' := hg
      clear hx hown hb Hh hs hh hc
      simp only [List.length_nil] at HS ⊢
      go_wp2_with fail
      refine HS.out.mono ?_
      rintro e w2 ⟨rfl, l', hp, ha, ho2, hg2⟩
      have hl0 : l' = [] := List.Perm.eq_nil hp
      subst hl0
      have hb2 := HR.out.2.grown hg2 (Nat.le_trans HR.out.2.size (Nat.le_refl _)) (fun j e => by cases e; omega)
      have HB2 := Lib.hid hb2
      clear hb2 hg2 ho2 ha hp HS
      go_wp2_with fail
      go_ret
      exact ⟨_, cap, [], rfl, HR.out.1.1, HR.out.1.2, asc_nil, RdRep.nil, HB2.out⟩
  · obtain ⟨g, cap, rfl, _⟩ := hown.form h0
    have hs := sort_c _ g cap xs w1 hown hxl
    have hg := (hown.lt g rfl).1
    have HS := Lib.hid hs
    have HR := Lib.hid (And.intro hx hb)
    clear hx hown hb Hh hs
    go_wp2_with fail
    refine HS.out.mono ?_
    rintro e w2 ⟨rfl, l', hp, ha, ho2, hg2⟩
    have hll : l'.length = xs.length := hp.length_eq
    rw [← hll] at ho2
    have hrd := rdRep_of_own ho2
    have hb2 := HR.out.2.grown hg2 HR.out.2.size (fun j e => by cases e; omega)
    have HB2 := Lib.hid (And.intro hb2 (And.intro hrd (And.intro hp ha)))
    have Hll := Lib.hid hll
    clear hb2 hg2 ho2 ha hp HS hrd hll
    go_wp2_with fail
    go_ret
    refine ⟨_, cap, l', ?_, (HB2.out.2.2.1.nodup_iff).2 HR.out.1.1, fun x => (HB2.out.2.2.1.mem_iff).trans (HR.out.1.2 x), HB2.out.2.2.2, HB2.out.2.1, HB2.out.1⟩
    rw [Hll.out]; rfl
theorem sorted_c (b n : Nat) (ks : List Rep) (f : Rep → Int) (w : World) (hO : OnMap KR w b n ks f) (hl : ks.length ≤ 100000000) :
    Calls Tryz.prog 39 #[.map (some b)] w (SortedR w ks) := by
  have h := sortedFunc_c w.heap.size b n ks f (w.alloc (.cells #[.map (some b)] 83)) (Blk.new w _ _) (hO.alloc _) hl
  have Hh := Lib.hid h
  clear h hO
  go_enter Tryz.func39, Tryz.ntmps39
  go_wp2_with fail
  refine (keys_c _ _).mono ?_
  rintro e w1 ⟨rfl, rfl⟩
  go_wp2_with fail
  refine Hh.out.mono ?_
  rintro e w2 ⟨A', c', l, rfl, h1, h2, h3, h4, h5⟩
  have HR := Lib.hid (And.intro h1 (And.intro h2 (And.intro h3 (And.intro h4 (((Below.refl _ w).alloc (Nat.le_refl _) (.cells #[.map (some b)] 83)).trans (h5.mono (by simp)))))))
  clear h1 h2 h3 h4 h5 Hh
  go_wp2_with fail
  go_ret
  exact ⟨A', c', l, rfl, HR.out⟩
end Go.Proofs.YtknojjlfgjkbiaaGreatDoor
