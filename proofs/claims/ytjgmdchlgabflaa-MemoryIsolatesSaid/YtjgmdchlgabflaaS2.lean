/- The contracts of slices.Clone and slices.DeleteFunc at regions. -/
import Derived.Test.YtjgmdchlgabflaaS1
namespace Go.Proofs.Ytjgmdchlgabflaa
open Go.ChangeShapes Go.WideShapes Go.ChangeAt Go.RowKit

theorem Row.of_own {w : World} {base g cap n : Nat} {l : List Reg} (hn : n = l.length) (h : w.ownsRow base 42 3 (.slice (some ⟨g, 0, none⟩) n cap) n (l.flatMap Reg.cells)) : Row w g cap l := by
  subst hn
  rcases h.2 with ⟨h0, _⟩ | ⟨g', cap', cur, hv, _, hh, hnc, hcm, hsz, htk⟩
  · cases h0
  · injection hv with h1 h2 h3
    injection h1 with h1
    injection h1 with h1
    subst h1 h3
    refine ⟨cur, hh, hnc, hcm, hsz, fun i hi => ?_⟩
    obtain ⟨q0, q1, q2⟩ := cells3_get l i hi
    have e : ∀ j v, j < l.length * 3 → (l.flatMap Reg.cells)[j]? = some v → cur[j]? = some v := fun j v hj hq => by
      rw [← htk, List.getElem?_take, if_pos hj] at hq
      simpa using hq
    exact ⟨e _ _ (by omega) q0, e _ _ (by omega) q1, e _ _ (by omega) q2⟩

theorem rd_flat {w : World} {B b o : Nat} {l : List Reg} (h : RdReg w B (some ⟨b, o, none⟩) l) (hn : 0 < l.length) : ∀ j u, (l.flatMap Reg.cells)[j]? = some u → w.cell? ((⟨b, o, none⟩ : Addr).add j) = some u := by
  obtain ⟨b', o', e, _, hc⟩ := h hn
  injection e with e
  injection e with e1 e2
  subst e1 e2
  intro j u hu
  have hj : j < l.length * 3 := by
    have := (List.getElem?_eq_some_iff.1 hu).1
    rwa [cells3_length] at this
  have hi : j / 3 < l.length := by omega
  obtain ⟨q0, q1, q2⟩ := cells3_get l (j / 3) hi
  obtain ⟨c0, c1, c2⟩ := hc (j / 3) hi
  have ea : ∀ k, (⟨b, o, none⟩ : Addr).add k = ⟨b, o + k, none⟩ := fun k => by unfold Addr.add; split <;> simp_all
  rw [ea]
  have h3 : j = j / 3 * 3 ∨ j = j / 3 * 3 + 1 ∨ j = j / 3 * 3 + 2 := by omega
  rcases h3 with e | e | e
  · rw [e, q0] at hu; rw [e, c0]; exact hu
  · rw [e, q1] at hu; rw [e, ← Nat.add_assoc, c1]; exact hu
  · rw [e, q2] at hu; rw [e, ← Nat.add_assoc, c2]; exact hu

/-- a slice of the call's own: nil, or the whole of a row from block B on. -/
def OwnReg (w : World) (B : Nat) (v : Value) (l : List Reg) : Prop := (v = .slice none 0 0 ∧ l = []) ∨ ∃ g cap, v = .slice (some ⟨g, 0, none⟩) l.length cap ∧ B ≤ g ∧ Row w g cap l
def Cloned (w : World) (l : List Reg) (e : Ending) (w' : World) : Prop := ∃ v, e = .returned v ∧ OwnReg w' w.heap.size v l ∧ Below w.heap.size w w'

theorem clone_c (l : List Reg) (A : Option Addr) (c : Nat) (w : World) (h : RdReg w w.heap.size A l) (hA : A = none → l.length = 0) (hl : l.length ≤ 1000) :
    Calls Try.prog 43 #[.slice A l.length c] w (Cloned w l) := by
  obtain ⟨i0, hi0, hz0, hz1, hz2⟩ := info_parts info42
  have hnil := fun (n c : Nat) W => Lib.run_eql_slice_nil (P := Try.prog) W 45 42 A n c 0 0 Try.underlying45
  cases A with
  | none =>
    have h0 := hA rfl
    have hl0 : l = [] := List.eq_nil_of_length_eq_zero h0
    subst hl0
    simp only [List.length_nil] at hnil ⊢
    go_enter Try.func43, Try.ntmps43
    go_wp2
    go_ret
    exact ⟨_, rfl, .inl ⟨rfl, rfl⟩, Below.refl _ _⟩
  | some ad =>
    have hcells : ∀ j u, (l.flatMap Reg.cells)[j]? = some u → w.cell? (ad.add j) = some u := by
      rcases Nat.eq_zero_or_pos l.length with h0 | h0
      · have hl0 : l = [] := List.eq_nil_of_length_eq_zero h0
        subst hl0
        intro j u hu; simp at hu
      · obtain ⟨b, o, e, _⟩ := h h0
        injection e with e
        subst e
        exact rd_flat h h0
    have hlt : ∀ j u, (l.flatMap Reg.cells)[j]? = some u → (w.alloc (.cells #[] 42)).cell? (ad.add j) = some u := fun j u hu => by
      have := hcells j u hu
      rw [World.cell?_alloc_lt _ _ _ (World.block_lt_of_cell? w _ this)]; exact this
    have hfl := cells3_length l
    have Hcells := Lib.hid hlt
    have Hfl := Lib.hid hfl
    clear hlt hcells hfl h hA
    go_enter Try.func43, Try.ntmps43
    go_wp2_with (at_builtin; refine wpList_append_own _ rfl _ _ 45 rfl w.heap.size 42 i0 (.agg #[.int .i64 0, .int .i64 0, .int .i64 0]) 3 24 Try.underlying45 hi0 hz0 hz1 hz2 rfl (by decide) _ 0 [] rfl (World.ownsRow_made _ #[] 0 (Nat.le_refl _) (by simp [maxLen]) (by simp)) ad l.length c (l.flatMap Reg.cells) rfl Hfl.out Hcells.out ?c2 ?c3 ?c4 ?c5 ?_)
    case c2 => intro u hu; obtain ⟨r, _, hr⟩ := List.mem_flatMap.1 hu; simp [Reg.cells] at hr; rcases hr with rfl | rfl | rfl <;> rfl
    case c3 => unfold maxLen; omega
    case c4 => omega
    case c5 => simp
    intro v' w2 hown2 hgrow hnl
    have hB : Below w.heap.size w w2 := ((Below.refl _ w).alloc (Nat.le_refl _) _).grown hgrow (by simp) (fun k hk => by simp [Value.ownBlock] at hk; omega)
    have hex : ∃ g cap, v' = .slice (some ⟨g, 0, none⟩) l.length cap ∧ w.heap.size ≤ g := by
      rcases hown2.2 with ⟨h0, _⟩ | ⟨g', cap', cur, hv, hbg, _⟩
      · exact (hnl h0).elim
      · exact ⟨g', cap', hv, hbg⟩
    obtain ⟨g, cap, rfl, hbg⟩ := hex
    have hrow := Row.of_own (l := l) rfl hown2
    clear hown2 hgrow hnl
    go_wp2
    go_ret
    exact ⟨_, rfl, .inr ⟨g, cap, rfl, hbg, hrow⟩, hB⟩

theorem Row.lt {w : World} {g cap : Nat} {l : List Reg} (h : Row w g cap l) : g < w.heap.size := by obtain ⟨cur, hh, _⟩ := h; exact Blk.lt (t := 42) hh
theorem Row.cells {w : World} {g cap : Nat} {l : List Reg} (h : Row w g cap l) (i : Nat) (hi : i < l.length) : w.cell? ⟨g, i * 3, none⟩ = some (.int .i64 l[i].part) ∧ w.cell? ⟨g, i * 3 + 1, none⟩ = some (.int .i64 l[i].base) ∧ w.cell? ⟨g, i * 3 + 2, none⟩ = some (.int .i64 l[i].size) := by
  obtain ⟨cur, hh, hlc, hcm, hsz, hc⟩ := h
  have hB : Blk w g 42 cur := hh
  rw [hB.cell, hB.cell, hB.cell]
  exact hc i hi
theorem Row.isSome {w : World} {g cap : Nat} {l : List Reg} (h : Row w g cap l) (j : Nat) (hj : j < cap * 3) : (w.cell? ⟨g, j, none⟩).isSome = true := by
  obtain ⟨cur, hh, hlc, hcm, hsz, hc⟩ := h
  have hB : Blk w g 42 cur := hh
  rw [hB.cell]; simp [hsz, hj]
theorem Row.frozen {w : World} {g cap : Nat} {l : List Reg} (h : Row w g cap l) (j : Nat) : w.frozen? ⟨g, j, none⟩ = false := by
  obtain ⟨cur, hh, _⟩ := h
  exact Blk.frozen (t := 42) hh j
theorem Row.rd {w : World} {g cap : Nat} {l : List Reg} (h : Row w g cap l) : RdReg w w.heap.size (some ⟨g, 0, none⟩) l := fun _ =>
  ⟨g, 0, rfl, h.lt, fun i hi => by have := h.cells i hi; simpa using this⟩
theorem Row.below {w w' : World} {g cap B : Nat} {l : List Reg} (h : Row w g cap l) (hb : Below B w w') (hg : g < B) : Row w' g cap l := by
  obtain ⟨cur, hh, r⟩ := h
  exact ⟨cur, (hb.block g hg).trans hh, r⟩
theorem Row.setc {w : World} {g cap : Nat} {l : List Reg} (h : Row w g cap l) (o : Nat) (v : Value) (ho : l.length * 3 ≤ o) : Row (w.setCell ⟨g, o, none⟩ v) g cap l := by
  obtain ⟨cur, hh, hlc, hcm, hsz, hc⟩ := h
  have hB : Blk w g 42 cur := hh
  refine ⟨_, hB.set_ o v, hlc, hcm, by simpa using hsz, fun i hi => ?_⟩
  simp only [Array.getElem?_setIfInBounds]
  rw [if_neg (by omega), if_neg (by omega), if_neg (by omega)]
  exact hc i hi
theorem Row.setCells {g cap : Nat} {l : List Reg} : ∀ (vs : List Value) (o : Nat) (w : World), Row w g cap l → l.length * 3 ≤ o → Row (w.setCells g o vs) g cap l
  | [], _, _, h, _ => h
  | v :: vs, o, w, h, ho => Row.setCells vs (o + 1) _ (h.setc o v ho) (by omega)
theorem Row.store {w : World} {g cap : Nat} {l : List Reg} (h : Row w g cap l) (i : Nat) (hi : i < l.length) (r : Reg) :
    Row (((w.setCell ⟨g, i * 3, none⟩ (.int .i64 r.part)).setCell ⟨g, i * 3 + 1, none⟩ (.int .i64 r.base)).setCell ⟨g, i * 3 + 2, none⟩ (.int .i64 r.size)) g cap (l.set i r) := by
  obtain ⟨cur, hh, hlc, hcm, hsz, hc⟩ := h
  have hB : Blk w g 42 cur := hh
  refine ⟨_, ((hB.set_ _ _).set_ _ _).set_ _ _, by simpa using hlc, hcm, by simpa using hsz, fun k hk => ?_⟩
  have hk' : k < l.length := by simpa using hk
  obtain ⟨c0, c1, c2⟩ := hc k hk'
  have hin : i * 3 + 2 < cur.size := by rw [hsz]; omega
  simp only [Array.getElem?_setIfInBounds, Array.size_setIfInBounds, List.getElem_set]
  by_cases e : i = k
  · subst e
    simp only [if_true]
    refine ⟨?_, ?_, ?_⟩
    · rw [if_neg (by omega), if_neg (by omega), if_pos (by omega)]
    · rw [if_neg (by omega), if_pos (by omega)]
    · rw [if_pos (by omega)]
  · rw [if_neg e]
    refine ⟨?_, ?_, ?_⟩
    · rw [if_neg (by omega), if_neg (by omega), if_neg (by omega)]; exact c0
    · rw [if_neg (by omega), if_neg (by omega), if_neg (by omega)]; exact c1
    · rw [if_neg (by omega), if_neg (by omega), if_neg (by omega)]; exact c2
theorem Row.take {w : World} {g cap : Nat} {l : List Reg} (h : Row w g cap l) (k : Nat) : Row w g cap (l.take k) := by
  obtain ⟨cur, hh, hlc, hcm, hsz, hc⟩ := h
  refine ⟨cur, hh, by simp; omega, hcm, hsz, fun i hi => ?_⟩
  have hi' : i < l.length := by simp at hi; omega
  rw [List.getElem_take]
  exact hc i hi'

/-- 'clear(s)' on the rest of a row. -/
theorem run_clear_reg {w : World} {g cap : Nat} {l : List Reg} (h : Row w g cap l) (ty i n c : Nat) (hn : 0 < n) (hin : i + n ≤ cap) :
    (Builtin.clear_ #[45] ty #[.slice (some ⟨g, i * 3, none⟩) n c]).run Try.prog w = .ok (.tuple #[]) (w.setCells g (i * 3) (Builtin.zeroCells #[.int .i64 0, .int .i64 0, .int .i64 0] n).toList) := by
  have hzs : (Builtin.zeroCells #[.int .i64 0, .int .i64 0, .int .i64 0] n).toList.length = n * 3 := by simp [Builtin.zeroCells]
  have hst := run_storeCells_cells (P := Try.prog) g (i * 3) (Builtin.zeroCells #[.int .i64 0, .int .i64 0, .int .i64 0] n).toList 0 w
    (fun j hj => h.isSome _ (by rw [hzs] at hj; omega)) (fun j _ => h.frozen _) (by
      intro v hv
      simp only [Builtin.zeroCells, Array.toList_map, List.mem_map] at hv
      obtain ⟨k, _, rfl⟩ := hv
      have h3 : k % 3 = 0 ∨ k % 3 = 1 ∨ k % 3 = 2 := by omega
      simp only [List.size_toArray, List.length_cons, List.length_nil]
      rcases h3 with e | e | e <;> rw [show (0 + 1 + 1 + 1) = 3 from rfl, e] <;> rfl)
  simp only [Nat.add_zero] at hst
  have hz := Try.zeroValue42
  obtain ⟨m, rfl⟩ : ∃ m, n = m + 1 := ⟨n - 1, by omega⟩
  simp [Builtin.clear_, run_underlying Try.underlying45, hz, Value.cells, hst]
end Go.Proofs.Ytjgmdchlgabflaa
