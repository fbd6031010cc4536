/- Texts U0 U1 U2, joined. -/
import Derived.IntWalk
import Derived.Laws.IdiomStrings
import Derived.Laws.BytesArg
import Derived.Test.YtknojjlfgjkbiaaGreatDoorH02
import Derived.Test.YtknojjlfgjkbiaaGreatDoorH03
import Derived.Test.YtknojjlfgjkbiaaGreatDoorH07
set_option linter.unusedSimpArgs false
set_option linter.unusedVariables false
set_option linter.unusedSectionVars false
/- Rows of lent elements; flat elements. -/
namespace Go.Proofs.YtknojjlfgjkbiaaGreatDoor
open Go.ChangeShapes Go.WideShapes Go.ChangeAt Go.RowKit Go.Deep

/-- blocks that a call has made: cells, from block B on. -/
def MadeQ (B : Nat) (W : World) (b : Nat) : Prop := B ≤ b ∧ ∃ o, W.heap[b]? = some o ∧ o.isCells = true
section
variable {B : Nat} {W W' w2 : World} {v V : Value}
theorem LR.keepQ (hgr : W.grownBy w2 v.ownBlock) (hg : V.ownBlock = v.ownBlock ∨ ∃ g, V.ownBlock = some g ∧ W.heap.size ≤ g) : ∀ b, (B ≤ b ∧ v.ownBlock ≠ some b ∧ ∃ o, W.heap[b]? = some o ∧ o.isCells = true) → (∀ o, w2.cell? ⟨b, o, none⟩ = W.cell? ⟨b, o, none⟩) ∧ (B ≤ b ∧ V.ownBlock ≠ some b ∧ ∃ o, w2.heap[b]? = some o ∧ o.isCells = true) := fun b ⟨q1, q2, o, q3, q4⟩ => by
  have hb := (Array.getElem?_eq_some_iff.1 q3).1
  have e := hgr.block b hb (fun e => q2 e.symm)
  refine ⟨fun _ => World.cell?_of_block e, q1, fun e2 => ?_, o, e.trans q3, q4⟩
  rcases hg with hg | ⟨g, hg, hgl⟩
  · exact q2 (by rw [← hg, e2])
  · rw [hg] at e2
    injection e2 with e2
    omega
end
theorem own_form {w : World} {base size n : Nat} {e : TypeId} {v : Value} {xs : List Value} (h : w.ownsRow base e size v n xs) (hn : 0 < n) : ∃ g cap cur, v = .slice (some ⟨g, 0, none⟩) n cap ∧ base ≤ g ∧ Blk w g e cur ∧ n ≤ cap ∧ cap ≤ maxLen ∧ cur.size = cap * size := by
  rcases h.2 with ⟨_, h0⟩ | ⟨g, cap, cur, hv, hb, hg, h1, h2, h3, _⟩
  · omega
  · exact ⟨g, cap, cur, hv, hb, hg, h1, h2, h3⟩

theorem flatG_get {α : Type} {n : Nat} : ∀ (L : List (List α)) (i : Nat) (hi : i < L.length) (r : Nat), (∀ x ∈ L, x.length = n) → r < n → L.flatten[i * n + r]? = L[i][r]?
  | [], i, hi, _, _, _ => by simp at hi
  | x :: xs, 0, _, r, h, hr => by
    have : x.length = n := h x (by simp)
    rw [List.flatten_cons, Nat.zero_mul, Nat.zero_add, List.getElem?_append_left (by omega)]
    rfl
  | x :: xs, i + 1, hi, r, h, hr => by
    have hx : x.length = n := h x (by simp)
    rw [List.flatten_cons, List.getElem?_append_right (by rw [hx, Nat.add_mul]; omega), hx, show (i + 1) * n + r - n = i * n + r by rw [Nat.add_mul]; omega]
    exact flatG_get xs i (by simpa using hi) r (fun y hy => h y (by simp [hy])) hr
/-- the values are those of elements that are lent. -/
structure GVL (mk : Nat → Nat → List Value) (n : Nat) (w : World) (Q : Nat → Prop) (L : List (List Value)) (l : List (List G)) : Prop where
  len : L.length = l.length
  at_ : ∀ i (h : i < L.length) (h' : i < l.length), L[i].length = n ∧ l[i].length = n ∧ ∀ j (hj : j < L[i].length) (hj' : j < l[i].length), G.ld mk w Q L[i][j] l[i][j]
section
variable {mk : Nat → Nat → List Value} {t n : Nat} {e : TypeId} {B : Nat} {W W' w2 : World} {v V : Value} {l : List (List G)} {L : List (List Value)} {j : Nat} {Q Q' : Nat → Prop}
theorem GVL.keep (hc : GVL mk n W Q L l) (h : ∀ b, Q b → (∀ o, W'.cell? ⟨b, o, none⟩ = W.cell? ⟨b, o, none⟩) ∧ Q' b) : GVL mk n W' Q' L l :=
  ⟨hc.len, fun i hi hi' => by
    obtain ⟨a, b, c⟩ := hc.at_ i hi hi'
    exact ⟨a, b, fun j hj hj' => (c j hj hj').keep h _ _⟩⟩
theorem GVL.nil : GVL mk n W Q [] [] := ⟨rfl, fun i h => by simp at h⟩
theorem GVL.push (hc : GVL mk n W Q L l) (x : List Value) (y : List G) (hx : x.length = n) (hy : y.length = n) (h : ∀ j (hj : j < x.length) (hj' : j < y.length), G.ld mk W Q x[j] y[j]) : GVL mk n W Q (L ++ [x]) (l ++ [y]) := by
  refine ⟨by simp [hc.len], fun i hi hi' => ?_⟩
  by_cases e : i < L.length
  · have e2 : i < l.length := by rw [← hc.len]; exact e
    simp only [List.getElem_append_left e, List.getElem_append_left e2]
    exact hc.at_ i e e2
  · have : i = L.length := by simp at hi; omega
    subst this
    have e2 := hc.len
    have q1 : (L ++ [x])[L.length] = x := by simp
    have q2 : (l ++ [y])[L.length]'hi' = y := by
      rw [List.getElem_append_right (by omega)]
      simp [e2]
    simp only [q1, q2]
    exact ⟨hx, hy, h⟩
theorem GVL.all (hc : GVL mk n W Q L l) : ∀ x ∈ L, x.length = n := fun x hx => by
  obtain ⟨i, hi, rfl⟩ := List.getElem_of_mem hx
  exact (hc.at_ i hi (by rw [← hc.len]; exact hi)).1
/-- a row that a call makes: elements, and j marks behind them. -/
structure GR (mk : Nat → Nat → List Value) (t n : Nat) (e : TypeId) (B : Nat) (W : World) (v : Value) (l : List (List G)) (L : List (List Value)) (j : Nat) : Prop where
  own : W.ownsRow B e n v (l.length + j) ((L ++ (List.range j).map (mk t)).flatten)
  cvl : GVL mk n W (fun b => B ≤ b ∧ v.ownBlock ≠ some b ∧ ∃ o, W.heap[b]? = some o ∧ o.isCells = true) L l
theorem GR.below (h : GR mk t n e B W v l L j) (hb : Below W.heap.size W W') : GR mk t n e B W' v l L j :=
  ⟨h.own.kept (below_grown (row := none) hb) (by cases v.ownBlock <;> simp), h.cvl.keep fun b ⟨q1, q2, o, q3, q4⟩ => by
    have e := hb.block b (Array.getElem?_eq_some_iff.1 q3).1
    exact ⟨fun _ => World.cell?_of_block e, q1, q2, o, e.trans q3, q4⟩⟩
theorem GR.push {x : List Value} {y : List G} (h : GR mk t n e B W v l L 0) (hgr : W.grownBy w2 v.ownBlock) (hown : w2.ownsRow B e n V (l.length + 1) (L.flatten ++ x)) (hg : V.ownBlock = v.ownBlock ∨ ∃ g, V.ownBlock = some g ∧ W.heap.size ≤ g)
    (hx : x.length = n) (hy : y.length = n) (hxy : ∀ j (hj : j < x.length) (hj' : j < y.length), G.ld mk W (fun b => B ≤ b ∧ v.ownBlock ≠ some b ∧ ∃ o, W.heap[b]? = some o ∧ o.isCells = true) x[j] y[j]) : GR mk t n e B w2 V (l ++ [y]) (L ++ [x]) 0 :=
  ⟨by simpa using hown, (h.cvl.keep (LR.keepQ hgr hg)).push x y hx hy fun j hj hj' => (hxy j hj hj').keep (LR.keepQ hgr hg) _ _⟩
theorem GR.mark (h : GR mk t n e B W v l L j) (hgr : W.grownBy w2 v.ownBlock) (hown : w2.ownsRow B e n V (l.length + j + 1) ((L ++ (List.range j).map (mk t)).flatten ++ mk t j)) (hg : V.ownBlock = v.ownBlock ∨ ∃ g, V.ownBlock = some g ∧ W.heap.size ≤ g) : GR mk t n e B w2 V l L (j + 1) := by
  refine ⟨?_, h.cvl.keep (LR.keepQ hgr hg)⟩
  rw [List.range_succ, List.map_append, ← List.append_assoc, List.flatten_append]
  simpa [Nat.add_assoc] using hown
theorem GR.fin (hn : 0 < n) (hmk : ∀ i, (mk t i).length = n) (h : GR mk t n e B W v l L 12) : ∃ g cap, v = .slice (some ⟨g, 0, none⟩) (l.length + 12) cap ∧ G.ld mk W (MadeQ B W) (.slice (some ⟨g, 0, none⟩) l.length cap) (.row t l) := by
  obtain ⟨g, cap, cur, rfl, hb, hk, h1, h2, h3⟩ := own_form h.own (by omega)
  have hll := h.cvl.len
  have hall : ∀ x ∈ L ++ (List.range 12).map (mk t), x.length = n := fun x hx => by
    rcases List.mem_append.1 hx with hx | hx
    · exact h.cvl.all x hx
    · obtain ⟨i, _, rfl⟩ := List.mem_map.1 hx
      exact hmk i
  have hcell : ∀ i (hi : i < (L ++ (List.range 12).map (mk t)).length) r u, r < n → (L ++ (List.range 12).map (mk t))[i][r]? = some u → W.cell? ⟨g, i * n + r, none⟩ = some u := fun i hi r u hr hu => by
    have hq := (flatG_get _ i hi r hall hr).trans hu
    have := h.own.cells (g := g) rfl _ u hq
    rw [add_none, Nat.zero_add] at this
    exact this
  refine ⟨g, cap, rfl, ?_⟩
  simp only [G.ld]
  refine ⟨g, cap, rfl, h1, h2, ⟨hb, _, hk, rfl⟩, ldR_of (n := n) (fun j hj => (h.cvl.at_ j (by omega) hj).2.1) fun i hi => ?_, fun i j u hi hu => ?_⟩
  · have hiL : i < L.length := by omega
    have hi2 : i < (L ++ (List.range 12).map (mk t)).length := by simp; omega
    have e : (L ++ (List.range 12).map (mk t))[i] = L[i] := List.getElem_append_left hiL
    obtain ⟨a1, a2, a3⟩ := h.cvl.at_ i hiL hi
    rw [Nat.zero_add]
    refine ldE_of (vs := L[i]) (by omega) (fun j u hu => hcell i hi2 j u ?_ (by rw [e]; exact hu)) fun j hj hj' => ?_
    · have := (List.getElem?_eq_some_iff.1 hu).1
      omega
    · exact (a3 j hj hj').keep (fun b ⟨q1, _, q3⟩ => ⟨fun _ => rfl, q1, q3⟩) _ _
  · have hi2 : l.length + i < (L ++ (List.range 12).map (mk t)).length := by simp; omega
    have e : (L ++ (List.range 12).map (mk t))[l.length + i] = mk t i := by
      rw [List.getElem_append_right (by omega)]
      simp [hll]
    have hjn : j < n := by
      have := (List.getElem?_eq_some_iff.1 hu).1
      rw [hmk] at this
      exact this
    rw [hmk 0]
    exact hcell _ hi2 j u hjn (by rw [e]; exact hu)
end

def G.val : G → Value
  | .one v => v
  | .row _ _ => .slice none 0 0
def K.flat : K → Bool
  | .sl _ => false
  | _ => true
theorem cf_flat {S : Nat → List K} {N : Nat → Nat} {k : K} {x : G} (hk : k.flat = true) (h : G.cf S N k x) : x = .one x.val ∧ x.val.oneCell' = true := by
  cases k <;> cases x <;> simp only [G.cf, K.flat] at h hk <;> first | exact h.elim | (obtain ⟨y, rfl, _⟩ := h; exact ⟨rfl, rfl⟩) | (obtain ⟨y, rfl⟩ := h; exact ⟨rfl, rfl⟩) | simp at hk
/-- the cells' values of flat elements. -/
def valsG (l : List (List G)) : List (List Value) := l.map (·.map G.val)
theorem valsG_len (l : List (List G)) : (valsG l).length = l.length := by simp [valsG]
theorem flatG_len {α : Type} {n : Nat} : ∀ (L : List (List α)), (∀ x ∈ L, x.length = n) → L.flatten.length = L.length * n
  | [], _ => by simp
  | x :: xs, h => by
    rw [List.flatten_cons, List.length_append, h x (by simp), flatG_len xs fun y hy => h y (by simp [hy]), List.length_cons, Nat.add_mul]
    omega
theorem rdE_at {w : World} {Q : Nat → Prop} {b : Nat} : ∀ {e : List G} {o j : Nat} (hj : j < e.length), rdE w Q b o e → ∃ v, w.cell? ⟨b, o + j, none⟩ = some v ∧ G.rd w Q v e[j]
  | [], _, _, hj, _ => by simp at hj
  | x :: r, o, 0, _, h => by simp only [rdE] at h; simpa using h.1
  | x :: r, o, j + 1, hj, h => by
    simp only [rdE] at h
    have := rdE_at (e := r) (o := o + 1) (j := j) (by simpa using hj) h.2
    rw [show o + 1 + j = o + (j + 1) by omega] at this
    simpa using this
theorem cfE_at {S : Nat → List K} {N : Nat → Nat} : ∀ {ks : List K} {e : List G} {j : Nat} (hk : j < ks.length) (hj : j < e.length), cfE S N ks e → G.cf S N ks[j] e[j]
  | [], _, _, hk, _, _ => by simp at hk
  | _ :: _, [], _, _, hj, _ => by simp at hj
  | k :: ks, x :: r, 0, _, _, h => by simp only [cfE] at h; simpa using h.1
  | k :: ks, x :: r, j + 1, hk, hj, h => by
    simp only [cfE] at h
    simpa using cfE_at (ks := ks) (e := r) (j := j) (by simpa using hk) (by simpa using hj) h.2
section
variable {S : Nat → List K} {N : Nat → Nat} {mk : Nat → Nat → List Value} {t n : Nat} {W : World} {Q : Nat → Prop} {l : List (List G)} {v : Value}
theorem cfR_len (h : cfR S N (S t) l) (i : Nat) (hi : i < l.length) : l[i].length = (S t).length := cfE_len (cfR_get hi h)
theorem flat_at (hf : ∀ k ∈ S t, k.flat = true) (h : cfR S N (S t) l) (i : Nat) (hi : i < l.length) (j : Nat) (hj : j < l[i].length) : l[i][j] = .one l[i][j].val ∧ l[i][j].val.oneCell' = true := by
  have h1 := cfR_len h i hi
  exact cf_flat (hf _ (List.getElem_mem (by omega))) (cfE_at (by omega) hj (cfR_get hi h))
theorem valsG_all (h : cfR S N (S t) l) : ∀ x ∈ valsG l, x.length = (S t).length := fun x hx => by
  obtain ⟨e, he, rfl⟩ := List.mem_map.1 hx
  obtain ⟨i, hi, rfl⟩ := List.getElem_of_mem he
  simpa using cfR_len h i hi
theorem valsG_one (hf : ∀ k ∈ S t, k.flat = true) (h : cfR S N (S t) l) : ∀ u ∈ (valsG l).flatten, u.oneCell' = true := fun u hu => by
  obtain ⟨x, hx, hu⟩ := List.mem_flatten.1 hu
  obtain ⟨e, he, rfl⟩ := List.mem_map.1 hx
  obtain ⟨i, hi, rfl⟩ := List.getElem_of_mem he
  obtain ⟨g, hg, rfl⟩ := List.mem_map.1 hu
  obtain ⟨j, hj, rfl⟩ := List.getElem_of_mem hg
  exact (flat_at hf h i hi j hj).2
theorem GVL_flat (hf : ∀ k ∈ S t, k.flat = true) (h : cfR S N (S t) l) : GVL mk (S t).length W Q (valsG l) l :=
  ⟨valsG_len l, fun i hi hi' => ⟨by simpa [valsG] using cfR_len h i hi', cfR_len h i hi', fun j hj hj' => by
    have := (flat_at hf h i hi' j hj').1
    rw [this]
    simp [G.ld, valsG]⟩⟩
theorem reads_flat (hf : ∀ k ∈ S t, k.flat = true) (hS : 0 < (S t).length) (h : cfR S N (S t) l) (hr : G.rdW W v (.row t l)) : ∃ A c, v = .slice A l.length c ∧ Reads W W.heap.size (S t).length A l.length (valsG l).flatten := by
  simp only [G.rdW, G.rd] at hr
  obtain ⟨A, c, rfl, _, _, hb⟩ := hr
  refine ⟨A, c, rfl, by rw [flatG_len _ (valsG_all h), valsG_len], fun hn => ?_⟩
  obtain ⟨b, o, rfl, hlt, hR⟩ := hb hn
  refine ⟨_, rfl, hlt, fun j u hu => ?_⟩
  have hj := (List.getElem?_eq_some_iff.1 hu).1
  rw [flatG_len _ (valsG_all h), valsG_len] at hj
  have hi : j / (S t).length < l.length := by rwa [Nat.div_lt_iff_lt_mul hS]
  have hm : j % (S t).length < (S t).length := Nat.mod_lt _ hS
  have e : j / (S t).length * (S t).length + j % (S t).length = j := Nat.div_add_mod' _ _
  rw [← e, flatG_get _ _ (by rw [valsG_len]; exact hi) _ (valsG_all h) hm] at hu
  have hl := cfR_len h _ hi
  obtain ⟨x, h1, h2⟩ := rdE_at (j := j % (S t).length) (by omega) (rdR_get hi (cfR_len h) hR)
  rw [(flat_at hf h _ hi _ (by omega)).1] at h2
  simp only [G.rd] at h2
  subst h2
  rw [add_none, ← e]
  rw [Nat.add_assoc] at h1
  rw [h1]
  simp only [valsG, List.getElem_map] at hu
  rw [List.getElem?_map, List.getElem?_eq_getElem (by omega)] at hu
  exact hu
end
end Go.Proofs.YtknojjlfgjkbiaaGreatDoor
/- Marks; functions that lend slices of reports and of strings. Printed by wip/gen/lk41.py. -/
namespace Go.Proofs.YtknojjlfgjkbiaaGreatDoor
open Go.ChangeShapes Go.WideShapes Go.ChangeAt Go.RowKit Go.Deep
attribute [local go_sem] Oper.semAt_some

def markI (i : Nat) : Int := 8000024 + i
/-- the mark of a string: '#', the slice's number in three bytes, '/', the index in three. -/
def mkT (i : Nat) : ByteArray := strOfNums [35, 1, 0, 0, 47, (i : Int), 0, 0]
/-- an element's mark. -/
def KM : Nat → Nat → List Value
  | 0, i => [.string (mkT i), .slice none 0 0, .slice none 0 0]
  | 1, i => [.string ⟨#[]⟩, .int .i64 (markI i)]
  | _, i => [.string (mkT i)]
theorem mark_c (i : Nat) (w : World) (h1 : i ≤ 1000000) : Calls Tryz.prog 88 #[.int .i64 1, .int .i64 i] w fun e w' => e = .returned (.int .i64 (markI i)) ∧ w = w' := by
  go_enter Tryz.func88, Tryz.ntmps88
  go_wp2_with fail
  go_ret
  exact ⟨by unfold markI; go_num, rfl⟩
theorem markReport_c (i : Nat) (w : World) (h1 : i ≤ 1000000) : Calls Tryz.prog 49 #[.int .i64 1, .int .i64 i] w fun e w' => e = .returned (.agg #[.string ⟨#[]⟩, .int .i64 (markI i)]) ∧ Below w.heap.size w w' := by
  have hI := fun W => mark_c i W h1
  have hb0 := Blk.new w 32 #[.string ⟨#[]⟩, .int .i64 0]
  go_enter Tryz.func49, Tryz.ntmps49
  go_wp2_with (go_at_call 88; refine (hI _).mono ?_; rintro e w' ⟨rfl, rfl⟩)
  refine bodyPost_ret (v := .agg #[.string ⟨#[]⟩, .int .i64 (8000024 + i)]) (by simp [results, Tryz.results49, go_sem, markI]) rfl ⟨rfl, ?_⟩
  exact (Below.refl _ _).alloc (Nat.le_refl _) _
theorem markText_c (i : Nat) (w : World) (h1 : i < 12) : Calls Tryz.prog 87 #[.int .i64 1, .int .i64 i] w fun e w' => e = .returned (.string (mkT i)) ∧ Below w.heap.size w w' := by
  have hcv : (convert 244 9 (.slice (some ⟨w.heap.size, 0, none⟩) 8 8)).run Tryz.prog (w.alloc (.cells #[.int .u8 35, .int .u8 1, .int .u8 0, .int .u8 0, .int .u8 47, .int .u8 i, .int .u8 0, .int .u8 0] 5)) = .ok (.string (mkT i)) (w.alloc (.cells #[.int .u8 35, .int .u8 1, .int .u8 0, .int .u8 0, .int .u8 47, .int .u8 i, .int .u8 0, .int .u8 0] 5)) :=
    run_convert_bytes_arg _ 244 5 Tryz.underlying244 Tryz.underlying5 w.heap.size 0 8 8 [35, 1, 0, 0, 47, (i : Int), 0, 0] rfl (fun j hj => by
      rw [Nat.zero_add, (Blk.new w 5 #[.int .u8 35, .int .u8 1, .int .u8 0, .int .u8 0, .int .u8 47, .int .u8 i, .int .u8 0, .int .u8 0]).cell j]
      match j, hj with
      | 0, _ => rfl
      | 1, _ => rfl
      | 2, _ => rfl
      | 3, _ => rfl
      | 4, _ => rfl
      | 5, _ => rfl
      | 6, _ => rfl
      | 7, _ => rfl) 9 Tryz.underlying9
  have h8 : (i : Int) / 256 = 0 := by omega
  have h16 : (i : Int) / 65536 = 0 := by omega
  have hw : IntKind.u8.wrap (i : Int) = (i : Int) := by unfold IntKind.wrap; simp [IntKind.bits]; omega
  go_enter Tryz.func87, Tryz.ntmps87
  go_wp2_with fail
  go_ret
  exact ⟨rfl, (Below.refl _ _).alloc (Nat.le_refl _) _⟩
/-- a call lends a datum. -/
def LentGPost (w : World) (x : G) (e : Ending) (w' : World) : Prop := ∃ V, e = .returned V ∧ G.ld KM w' (MadeQ w.heap.size w') V x ∧ Below w.heap.size w w'
set_option maxRecDepth 100000 in
set_option maxHeartbeats 4000000 in
theorem lentReports_c (l : List (List G)) (v : Value) (w : World) (hcf : G.cf GS GN (.sl 1) (.row 1 l)) (h : G.rdW w v (.row 1 l)) : Calls Tryz.prog 20 #[v] w (LentGPost w (.row 1 l)) := by
  obtain ⟨i0, hi0, hz0, hz1, hz2⟩ := info_parts info46
  simp only [G.cf] at hcf
  obtain ⟨_, hlen, hcR⟩ := hcf
  have hlen : l.length ≤ 5864062014634 := Nat.le_trans hlen (by decide)
  have hflat : ∀ k ∈ GS 1, k.flat = true := by decide
  obtain ⟨A, c, rfl, hread⟩ := reads_flat hflat (by decide) hcR h
  have hread : Reads w w.heap.size 2 A l.length (valsG l).flatten := hread
  have hone := valsG_one hflat hcR
  have hmk : ∀ W, (Instr.makeSlice 23 (.int .i64 0) (.int .i64 ((l.length : Int) + 12))).run Tryz.prog W = .ok (.slice (some ⟨W.heap.size, 0, none⟩) 0 (l.length + 12)) (W.alloc (.cells (madeCells #[.string ⟨#[]⟩, .int .i64 0] ((l.length + 12) * 2)) 32)) := fun W => by
    have e := run_make_rowN (P := Tryz.prog) 23 32 i0 _ Tryz.underlying23 hi0 hz0 .i64 .i64 0 (l.length + 12) (by omega) (by rw [hz2]; omega) (by omega) W
    rw [hz1] at e
    simpa [Value.cells] using e
  have hwr := IntWalk.i64_in ((l.length : Int) + 12) (by omega)
  obtain ⟨W1, hW1⟩ : ∃ W1, W1 = w.alloc (.cells (madeCells #[.string ⟨#[]⟩, .int .i64 0] ((l.length + 12) * 2)) 32) := ⟨_, rfl⟩
  have hB1 : Below w.heap.size w W1 := by rw [hW1]; exact (Below.refl _ w).alloc (Nat.le_refl _) _
  have hown1 : W1.ownsRow w.heap.size 32 2 (.slice (some ⟨w.heap.size, 0, none⟩) 0 (l.length + 12)) 0 [] := by rw [hW1]; exact World.ownsRow_made _ _ (l.length + 12) (Nat.le_refl _) (by simp [maxLen]; omega) (by simp [size_madeCells])
  have hread1 : Reads W1 w.heap.size 2 A l.length (valsG l).flatten := by rw [hW1]; exact hread.alloc (Nat.le_refl _) _
  have hgv : ∀ (W : World) (Q : Nat → Prop), GVL KM 2 W Q (valsG l) l := fun W Q => GVL_flat (S := GS) (t := 1) hflat hcR
  have Hgv := Lib.hid hgv
  have HW1 := Lib.hid hW1
  have HB1 := Lib.hid hB1
  have Hread := Lib.hid hread1
  have Hone := Lib.hid hone
  have Hown := Lib.hid hown1
  clear hread hread1 hone h hcR hflat hgv hW1 hB1 hown1
  go_enter Tryz.func20, Tryz.ntmps20
  go_wp2_with (at_builtin; rw [← HW1.out]; refine wpList_append_any _ rfl _ _ 23 rfl w.heap.size 32 i0 (.agg #[.string ⟨#[]⟩, .int .i64 0]) 2 24 Tryz.underlying23 hi0 hz0 hz1 hz2 rfl (by decide) _ 0 [] rfl Hown.out w.heap.size A l.length c (valsG l).flatten rfl Hread.out Hone.out ?c3 ?c4 ?c5 ?_)
  case c3 => unfold maxLen; omega
  case c4 => omega
  case c5 => exact HB1.out.size
  intro v' w2 hown2 hgrow hwhere
  have hB : Below w.heap.size w w2 := HB1.out.grown hgrow HB1.out.size (fun k hk => by simp [Value.ownBlock] at hk; omega)
  have hown2 : w2.ownsRow w.heap.size 32 2 v' l.length (valsG l).flatten := by simpa using hown2
  have hGR : GR KM 1 2 32 w.heap.size w2 v' l (valsG l) 0 := ⟨by simpa using hown2, Hgv.out _ _⟩
  have HGR := Lib.hid hGR
  clear hGR hgrow hwhere Hread Hone hmk hown2 Hown HW1 HB1 Hgv
  go_wp2_with fail
  go_loopw [3, 4] (fun v i wr => ∃ k : Nat, k ≤ 12 ∧ i = .int .i64 k ∧ Below w.heap.size w wr ∧ Hid (GR KM 1 2 32 w.heap.size wr v l (valsG l) k)) (fun _ i _ => 12 - (intOf i).toNat)
  case atStart => exact ⟨0, by omega, rfl, hB, HGR.out⟩
  case round =>
    obtain ⟨k, hk, rfl, hBm, hLR⟩ := hrel
    by_cases hlt : k < 12
    · have hmark := markReport_c k wr (by omega)
      have hdj : decide ((k : Int) < 12) = true := decide_eq_true (by omega)
      have Hmark := Lib.hid hmark
      clear hmark HGR
      go_wp2_with fail
      refine Hmark.out.mono ?_
      rintro e w3 ⟨rfl, hb3⟩
      obtain ⟨X, hX⟩ : ∃ X, X = w3.alloc (.cells #[.string ⟨#[]⟩, .int .i64 (markI k)] 32) := ⟨_, rfl⟩
      have hBX : Below w3.heap.size w3 X := by rw [hX]; exact (Below.refl _ _).alloc (Nat.le_refl _) _
      have hbT : Blk X w3.heap.size 32 #[.string ⟨#[]⟩, .int .i64 (markI k)] := by rw [hX]; exact Blk.new w3 32 _
      have hBwX := hb3.trans (hBX.mono hb3.size)
      have hlr := hLR.out.below hBwX
      have hBr2 := hBm.trans (hBwX.mono hBm.size)
      have Hlr := Lib.hid hlr
      have HbT := Lib.hid hbT
      have HBX := Lib.hid hBr2
      have HX := Lib.hid hX
      clear hlr hbT hBr2 hLR hBwX hBX hb3 hX Hmark
      go_wp2_with (at_builtin; rw [← HX.out]; refine wpList_append_lies _ rfl _ _ 23 rfl w.heap.size 32 i0 _ 2 24 Tryz.underlying23 hi0 hz0 hz1 hz2 rfl (by decide) _ (l.length + k) _ rfl Hlr.out.own ⟨w3.heap.size, 0, none⟩ 1 1 (KM 1 k) rfl rfl (World.news_of_block HbT.out) (by simp [KM, Value.oneCell']) (by omega) (by unfold maxLen; omega) (by omega) HBX.out.size X.heap.size rfl ?_)
      intro g cap w4 hown hgrow hg hgl
      have hpush := Hlr.out.mark (V := .slice (some ⟨g, 0, none⟩) (l.length + k + 1) cap) hgrow (by rw [List.flatten_append, List.append_assoc]; exact hown) (by rcases hg with hg | hg; exact .inl hg.symm; exact .inr ⟨g, rfl, by omega⟩)
      have hB5 : Below w.heap.size w w4 := HBX.out.grown hgrow HBX.out.size (fun b hb => (Hlr.out.own.lt b hb).1)
      have HP := Lib.hid hpush
      clear hown hgrow hg hpush Hlr HbT HBX HX
      go_wp2_with fail
      go_roundw
      case rel => exact ⟨k + 1, by omega, by go_num, hB5, HP.out⟩
      case measure => simp [intOf]; omega
    · obtain rfl : k = 12 := by omega
      have hdj : decide (((12 : Nat) : Int) < 12) = false := by decide
      obtain ⟨g, cap, rfl, hld⟩ := hLR.out.fin (by decide) (fun i => rfl)
      have hcap : l.length + 12 ≤ cap := by
        have := hld
        simp only [G.ld] at this
        obtain ⟨g2, c2, e, h1, _⟩ := this
        injection e with _ _ e; omega
      have HF2 := Lib.hid hld
      clear hLR hld HGR
      go_wp2_with fail
      go_ret
      exact ⟨_, rfl, HF2.out, hBm⟩

set_option maxRecDepth 100000 in
set_option maxHeartbeats 4000000 in
theorem lentTexts_c (l : List (List G)) (v : Value) (w : World) (hcf : G.cf GS GN (.sl 2) (.row 2 l)) (h : G.rdW w v (.row 2 l)) : Calls Tryz.prog 86 #[v] w (LentGPost w (.row 2 l)) := by
  obtain ⟨i0, hi0, hz0, hz1, hz2⟩ := info_parts info9
  simp only [G.cf] at hcf
  obtain ⟨_, hlen, hcR⟩ := hcf
  have hlen : l.length ≤ 8796093021952 := Nat.le_trans hlen (by decide)
  have hflat : ∀ k ∈ GS 2, k.flat = true := by decide
  obtain ⟨A, c, rfl, hread⟩ := reads_flat hflat (by decide) hcR h
  have hread : Reads w w.heap.size 1 A l.length (valsG l).flatten := hread
  have hone := valsG_one hflat hcR
  have hmk : ∀ W, (Instr.makeSlice 24 (.int .i64 0) (.int .i64 ((l.length : Int) + 12))).run Tryz.prog W = .ok (.slice (some ⟨W.heap.size, 0, none⟩) 0 (l.length + 12)) (W.alloc (.cells (madeCells #[.string ⟨#[]⟩] (l.length + 12)) 9)) := fun W => by
    have e := run_make_rowN (P := Tryz.prog) 24 9 i0 _ Tryz.underlying24 hi0 hz0 .i64 .i64 0 (l.length + 12) (by omega) (by rw [hz2]; omega) (by omega) W
    rw [hz1] at e
    simpa [Value.cells] using e
  have hwr := IntWalk.i64_in ((l.length : Int) + 12) (by omega)
  obtain ⟨W1, hW1⟩ : ∃ W1, W1 = w.alloc (.cells (madeCells #[.string ⟨#[]⟩] (l.length + 12)) 9) := ⟨_, rfl⟩
  have hB1 : Below w.heap.size w W1 := by rw [hW1]; exact (Below.refl _ w).alloc (Nat.le_refl _) _
  have hown1 : W1.ownsRow w.heap.size 9 1 (.slice (some ⟨w.heap.size, 0, none⟩) 0 (l.length + 12)) 0 [] := by rw [hW1]; exact World.ownsRow_made _ _ (l.length + 12) (Nat.le_refl _) (by simp [maxLen]; omega) (by simp [size_madeCells])
  have hread1 : Reads W1 w.heap.size 1 A l.length (valsG l).flatten := by rw [hW1]; exact hread.alloc (Nat.le_refl _) _
  have hgv : ∀ (W : World) (Q : Nat → Prop), GVL KM 1 W Q (valsG l) l := fun W Q => GVL_flat (S := GS) (t := 2) hflat hcR
  have Hgv := Lib.hid hgv
  have HW1 := Lib.hid hW1
  have HB1 := Lib.hid hB1
  have Hread := Lib.hid hread1
  have Hone := Lib.hid hone
  have Hown := Lib.hid hown1
  clear hread hread1 hone h hcR hflat hgv hW1 hB1 hown1
  go_enter Tryz.func86, Tryz.ntmps86
  go_wp2_with (at_builtin; rw [← HW1.out]; refine wpList_append_any _ rfl _ _ 24 rfl w.heap.size 9 i0 (.string ⟨#[]⟩) 1 16 Tryz.underlying24 hi0 hz0 hz1 hz2 rfl (by decide) _ 0 [] rfl Hown.out w.heap.size A l.length c (valsG l).flatten rfl Hread.out Hone.out ?c3 ?c4 ?c5 ?_)
  case c3 => unfold maxLen; omega
  case c4 => omega
  case c5 => exact HB1.out.size
  intro v' w2 hown2 hgrow hwhere
  have hB : Below w.heap.size w w2 := HB1.out.grown hgrow HB1.out.size (fun k hk => by simp [Value.ownBlock] at hk; omega)
  have hown2 : w2.ownsRow w.heap.size 9 1 v' l.length (valsG l).flatten := by simpa using hown2
  have hGR : GR KM 2 1 9 w.heap.size w2 v' l (valsG l) 0 := ⟨by simpa using hown2, Hgv.out _ _⟩
  have HGR := Lib.hid hGR
  clear hGR hgrow hwhere Hread Hone hmk hown2 Hown HW1 HB1 Hgv
  go_wp2_with fail
  go_loopw [3, 4] (fun v i wr => ∃ k : Nat, k ≤ 12 ∧ i = .int .i64 k ∧ Below w.heap.size w wr ∧ Hid (GR KM 2 1 9 w.heap.size wr v l (valsG l) k)) (fun _ i _ => 12 - (intOf i).toNat)
  case atStart => exact ⟨0, by omega, rfl, hB, HGR.out⟩
  case round =>
    obtain ⟨k, hk, rfl, hBm, hLR⟩ := hrel
    by_cases hlt : k < 12
    · have hmark := markText_c k wr (by omega)
      have hdj : decide ((k : Int) < 12) = true := decide_eq_true (by omega)
      have Hmark := Lib.hid hmark
      clear hmark HGR
      go_wp2_with fail
      refine Hmark.out.mono ?_
      rintro e w3 ⟨rfl, hb3⟩
      obtain ⟨X, hX⟩ : ∃ X, X = w3.alloc (.cells #[.string (mkT k)] 9) := ⟨_, rfl⟩
      have hBX : Below w3.heap.size w3 X := by rw [hX]; exact (Below.refl _ _).alloc (Nat.le_refl _) _
      have hbT : Blk X w3.heap.size 9 #[.string (mkT k)] := by rw [hX]; exact Blk.new w3 9 _
      have hBwX := hb3.trans (hBX.mono hb3.size)
      have hlr := hLR.out.below hBwX
      have hBr2 := hBm.trans (hBwX.mono hBm.size)
      have Hlr := Lib.hid hlr
      have HbT := Lib.hid hbT
      have HBX := Lib.hid hBr2
      have HX := Lib.hid hX
      clear hlr hbT hBr2 hLR hBwX hBX hb3 hX Hmark
      go_wp2_with (at_builtin; rw [← HX.out]; refine wpList_append_lies _ rfl _ _ 24 rfl w.heap.size 9 i0 _ 1 16 Tryz.underlying24 hi0 hz0 hz1 hz2 rfl (by decide) _ (l.length + k) _ rfl Hlr.out.own ⟨w3.heap.size, 0, none⟩ 1 1 (KM 2 k) rfl rfl (World.news_of_block HbT.out) (by simp [KM, Value.oneCell']) (by omega) (by unfold maxLen; omega) (by omega) HBX.out.size X.heap.size rfl ?_)
      intro g cap w4 hown hgrow hg hgl
      have hpush := Hlr.out.mark (V := .slice (some ⟨g, 0, none⟩) (l.length + k + 1) cap) hgrow (by rw [List.flatten_append, List.append_assoc]; exact hown) (by rcases hg with hg | hg; exact .inl hg.symm; exact .inr ⟨g, rfl, by omega⟩)
      have hB5 : Below w.heap.size w w4 := HBX.out.grown hgrow HBX.out.size (fun b hb => (Hlr.out.own.lt b hb).1)
      have HP := Lib.hid hpush
      clear hown hgrow hg hpush Hlr HbT HBX HX
      go_wp2_with fail
      go_roundw
      case rel => exact ⟨k + 1, by omega, by go_num, hB5, HP.out⟩
      case measure => simp [intOf]; omega
    · obtain rfl : k = 12 := by omega
      have hdj : decide (((12 : Nat) : Int) < 12) = false := by decide
      obtain ⟨g, cap, rfl, hld⟩ := hLR.out.fin (by decide) (fun i => rfl)
      have hcap : l.length + 12 ≤ cap := by
        have := hld
        simp only [G.ld] at this
        obtain ⟨g2, c2, e, h1, _⟩ := this
        injection e with _ _ e; omega
      have HF2 := Lib.hid hld
      clear hLR hld HGR
      go_wp2_with fail
      go_ret
      exact ⟨_, rfl, HF2.out, hBm⟩

end Go.Proofs.YtknojjlfgjkbiaaGreatDoor
/- Functions that check a lent flat slice. Printed by wip/gen/lk41.py. -/
namespace Go.Proofs.YtknojjlfgjkbiaaGreatDoor
open Go.ChangeShapes Go.WideShapes Go.ChangeAt Go.RowKit Go.Deep Op

theorem cfReports {x : List G} (h : cfE GS GN (GS 1) x) : ∃ (x0 : ByteArray) (x1 : Int), x = [.one (.string x0), .one (.int .i64 x1)] := by
  have hl := cfE_len h
  match x, hl with
  | [g0, g1], _ =>
    simp only [GS, cfE] at h
    obtain ⟨h0, h1, _⟩ := h
    obtain ⟨x0, e0⟩ : ∃ x : ByteArray, g0 = .one (.string x) := by
      have := cf_flat rfl h0
      cases g0 with
      | one v => simp only [G.cf] at h0; obtain ⟨y, rfl, _⟩ := h0; exact ⟨y, rfl⟩
      | row _ _ => exact absurd h0 (by simp [G.cf])
    obtain ⟨x1, e1⟩ : ∃ x : Int, g1 = .one (.int .i64 x) := by
      have := cf_flat rfl h1
      cases g1 with
      | one v => simp only [G.cf] at h1; obtain ⟨y, rfl, _⟩ := h1; exact ⟨y, rfl⟩
      | row _ _ => exact absurd h1 (by simp [G.cf])
    exact ⟨x0, x1, by rw [e0, e1]⟩
theorem slice_to23_ (A : Option Addr) (m n co : Nat) (h : n ≤ co) (W : World) : (Instr.sliceAt 23 (.slice A m co) none (some (.int .i64 n)) none).run Tryz.prog W = .ok (.slice A n co) W := by
  have h0 : (0 : Int) ≤ (n : Int) := by omega
  have h1 : (n : Int) ≤ (co : Int) := by omega
  simp [go_sem, h0, h1, sliced, map_add_zero]

theorem eql32_same (x0 : ByteArray) (x1 : Int) (W : World) : (binOp .eql 32 (.agg #[.string x0, .int .i64 x1]) (.agg #[.string x0, .int .i64 x1])).run Tryz.prog W = .ok (.bool true) W := by
  have u3 := Tryz.underlying3
  have u4 := Tryz.underlying4
  have u5 := Tryz.underlying5
  have u9 := Tryz.underlying9
  have hS : Tryz.prog.underlying 32 = some (.struct (Tryz.prog.fieldsOf 32)) := by kernel_rfl
  have hp : Tryz.prog.stoodInHeld 32 = false := by kernel_rfl
  rw [run_eql_struct, show (10000 : Nat) = 9999 + 1 from rfl, run_equalIn_agg W 9999 32 _ _ hS hp]
  simp only [Program.fieldsOf, Tryz.underlying32]
  go_simp
theorem guard32_ : Tryz.prog.eqGuardType Tryz.prog.depth 32 = false := by kernel_rfl

section
attribute [-go_sem] run_sliceAt_slice
set_option maxRecDepth 100000 in
set_option maxHeartbeats 4000000 in
theorem keptReports_c (l : List (List G)) (V v : Value) (w : World) (hcf : G.cf GS GN (.sl 1) (.row 1 l)) (hV : G.ldW KM w V (.row 1 l)) (h : G.rdW w v (.row 1 l)) :
    Calls Tryz.prog 30 #[V, v] w fun e w' => e = .returned (.bool true) ∧ Below w.heap.size w w' := by
  simp only [G.cf] at hcf
  obtain ⟨_, hlen, hcR⟩ := hcf
  have hlen : l.length ≤ 5864062014634 := Nat.le_trans hlen (by decide)
  obtain ⟨g, cap, rfl, hcap, hcm⟩ : ∃ g cap, V = .slice (some ⟨g, 0, none⟩) l.length cap ∧ l.length + 12 ≤ cap ∧ cap ≤ maxLen := by
    have := hV
    simp only [G.ldW, G.ld] at this
    obtain ⟨g, cap, h1, h2, h3, _⟩ := this
    exact ⟨g, cap, h1, h2, h3⟩
  obtain ⟨A, c, rfl⟩ : ∃ A c, v = .slice A l.length c := by
    have := h
    simp only [G.rdW, G.rd] at this
    obtain ⟨A, c, h1, _⟩ := this
    exact ⟨A, c, h1⟩
  have hne : ((l.length : Int) != (l.length : Int)) = false := by simp
  have hwr := IntWalk.i64_in ((l.length : Int) + 12) (by omega)
  have hsl : ∀ W, (Instr.sliceAt 23 (.slice (some ⟨g, 0, none⟩) l.length cap) none (some (.int .i64 ((l.length : Int) + 12))) none).run Tryz.prog W = .ok (.slice (some ⟨g, 0, none⟩) (l.length + 12) cap) W := fun W => by
    have := slice_to23_ (some ⟨g, 0, none⟩) l.length (l.length + 12) cap hcap W
    simpa using this
  have H := Lib.hid h
  have HV := Lib.hid hV
  have HC := Lib.hid hcR
  clear h hV hcR
  go_enter Tryz.func30, Tryz.ntmps30
  go_wp2_with fail
  go_loopw [6] (fun i wr => ∃ k : Nat, k ≤ l.length + 12 ∧ i = .int .i64 k ∧ Below w.heap.size w wr) (fun i _ => l.length + 12 - (intOf i).toNat)
  case atStart => exact ⟨0, by omega, rfl, Below.refl _ _⟩
  case round =>
    obtain ⟨k, hk, rfl, hBr⟩ := hrel
    have hV2 := G.ldW.next HV.out hBr
    have h2 := G.rdW.next H.out hBr
    simp only [G.ldW, G.ld] at hV2
    simp only [G.rdW, G.rd] at h2
    obtain ⟨g2, cap2, e2, _, _, hg2, hld, hmk⟩ := hV2
    injection e2 with e2 _ e3
    injection e2 with e2
    injection e2 with e2
    subst e2 e3
    obtain ⟨A2, c2, e2, hlc, hlm, hrl⟩ := h2
    injection e2 with e2 _ e3
    subst e2 e3
    have hec := ext_cell wr
    have hi0 : (0 : Int) ≤ (k : Int) := by omega
    by_cases hlt : k < l.length
    · obtain ⟨b, o, rfl, hb, hR⟩ := hrl (by omega)
      have hd := rdR_get hlt (cfR_len HC.out) hR
      have hc := ldR_get hlt (cfR_len HC.out) hld
      obtain ⟨x0, x1, hx⟩ := cfReports (cfR_get hlt HC.out)
      rw [hx] at hd hc
      simp only [rdE, G.rd, exists_eq_right, ldE, G.ld, Nat.zero_add] at hd hc
      have hd : wr.cell? ⟨b, o + (k * 2), none⟩ = some (.string x0) ∧ wr.cell? ⟨b, o + (k * 2) + 1, none⟩ = some (.int .i64 x1) := ⟨hd.1, hd.2.1⟩
      have hc : wr.cell? ⟨g, k * 2, none⟩ = some (.string x0) ∧ wr.cell? ⟨g, k * 2 + 1, none⟩ = some (.int .i64 x1) := by
        exact ⟨hc.1, hc.2.1⟩
      obtain ⟨d0, d1⟩ := hd
      obtain ⟨c0, c1⟩ := hc
      have hi1 : (k : Int) < (l.length : Int) + 12 := by omega
      have hi2 : (k : Int) < (l.length : Int) := by omega
      have t1 : decide ((k : Int) < (l.length : Int)) = true := decide_eq_true hi2
      have t2 : decide ((k : Int) ≥ (l.length : Int)) = false := decide_eq_false (by omega)
      have t3 : decide (k < l.length) = true := decide_eq_true hlt
      have t4 : decide (l.length ≤ k) = false := decide_eq_false (by omega)
      have heq := fun W => eql32_same x0 x1 W
      have hgd := guard32_
      clear hd hc hx hR hrl hld hmk hlt H HV HC
      go_wp2_with fail
      go_quiet (fail)
      go_wp2_with fail
      go_roundw
      case rel => exact ⟨k + 1, by omega, by go_num, below_drewN hBr _⟩
      case measure => simp [intOf]; omega
    · by_cases hlt2 : k < l.length + 12
      · have c0 := hmk (k - l.length) 0 _ (by omega) rfl
        rw [show l.length + (k - l.length) = k by omega] at c0
        have c0 : wr.cell? ⟨g, k * 2, none⟩ = some (.string ⟨#[]⟩) := by simpa [KM] using c0
        have c1 := hmk (k - l.length) 1 _ (by omega) rfl
        rw [show l.length + (k - l.length) = k by omega] at c1
        have c1 : wr.cell? ⟨g, k * 2 + 1, none⟩ = some (.int .i64 (markI (k - l.length))) := by simpa [KM] using c1
        have hi1 : (k : Int) < (l.length : Int) + 12 := by omega
        have t1 : decide ((k : Int) < (l.length : Int)) = false := decide_eq_false (by omega)
        have t2 : decide ((k : Int) ≥ (l.length : Int)) = true := decide_eq_true (by omega)
        have t3 : decide (k < l.length) = false := decide_eq_false hlt
        have t4 : decide (l.length ≤ k) = true := decide_eq_true (by omega)
        have hmark : ∀ y : Ext wr, Calls Tryz.prog 49 #[.int .i64 1, .int .i64 ((k - l.length : Nat) : Int)] y.w fun e w' => e = .returned (.agg #[.string ⟨#[]⟩, .int .i64 (markI (k - l.length))]) ∧ Below y.w.heap.size y.w w' := fun y => markReport_c _ y.w (by omega)
        have hcast : (((k - l.length : Nat) : Nat) : Int) = (k : Int) - (l.length : Int) := by omega
        rw [hcast] at hmark
        have hw1 : IntKind.i64.wrap ((k : Int) - (l.length : Int)) = (k : Int) - (l.length : Int) := IntWalk.i64_in _ (by omega)
        clear hld hmk hrl H HV HC hcast
        generalize markI (k - l.length) = m9 at *
        have Hmark := Lib.hid hmark
        clear hmark
        have heq := fun W => eql32_same ⟨#[]⟩ m9 W
        have hgd := guard32_
        go_wp2_with fail
        refine wp_region_ext (by kernel_rfl) (by kernel_rfl) ?_
        repeat (go_big_quiet_step ((go_at_call 49; with_reducible exact ext_call (Hmark.out _))))
        refine wpQuiet_nil ?_
        intro _ hw'
        obtain ⟨xx, hw''⟩ := hw'
        subst hw''
        have hB2 := hBr.trans (xx.h.mono hBr.size)
        clear hec Hmark hw1 c0 c1
        generalize xx.w = w9 at hB2 ⊢
        go_wp2_with fail
        go_roundw
        case rel => exact ⟨k + 1, by omega, by go_num, hB2⟩
        case measure => simp [intOf]; omega
      · obtain rfl : k = l.length + 12 := by omega
        clear hld hmk hec hrl
        go_wp2_with fail
        go_ret
        exact ⟨rfl, hBr⟩
end

theorem cfTexts {x : List G} (h : cfE GS GN (GS 2) x) : ∃ (x0 : ByteArray), x = [.one (.string x0)] := by
  have hl := cfE_len h
  match x, hl with
  | [g0], _ =>
    simp only [GS, cfE] at h
    obtain ⟨h0, _⟩ := h
    obtain ⟨x0, e0⟩ : ∃ x : ByteArray, g0 = .one (.string x) := by
      have := cf_flat rfl h0
      cases g0 with
      | one v => simp only [G.cf] at h0; obtain ⟨y, rfl, _⟩ := h0; exact ⟨y, rfl⟩
      | row _ _ => exact absurd h0 (by simp [G.cf])
    exact ⟨x0, by rw [e0]⟩
theorem slice_to24_ (A : Option Addr) (m n co : Nat) (h : n ≤ co) (W : World) : (Instr.sliceAt 24 (.slice A m co) none (some (.int .i64 n)) none).run Tryz.prog W = .ok (.slice A n co) W := by
  have h0 : (0 : Int) ≤ (n : Int) := by omega
  have h1 : (n : Int) ≤ (co : Int) := by omega
  simp [go_sem, h0, h1, sliced, map_add_zero]

section
attribute [-go_sem] run_sliceAt_slice
set_option maxRecDepth 100000 in
set_option maxHeartbeats 4000000 in
theorem keptTexts_c (l : List (List G)) (V v : Value) (w : World) (hcf : G.cf GS GN (.sl 2) (.row 2 l)) (hV : G.ldW KM w V (.row 2 l)) (h : G.rdW w v (.row 2 l)) :
    Calls Tryz.prog 90 #[V, v] w fun e w' => e = .returned (.bool true) ∧ Below w.heap.size w w' := by
  simp only [G.cf] at hcf
  obtain ⟨_, hlen, hcR⟩ := hcf
  have hlen : l.length ≤ 8796093021952 := Nat.le_trans hlen (by decide)
  obtain ⟨g, cap, rfl, hcap, hcm⟩ : ∃ g cap, V = .slice (some ⟨g, 0, none⟩) l.length cap ∧ l.length + 12 ≤ cap ∧ cap ≤ maxLen := by
    have := hV
    simp only [G.ldW, G.ld] at this
    obtain ⟨g, cap, h1, h2, h3, _⟩ := this
    exact ⟨g, cap, h1, h2, h3⟩
  obtain ⟨A, c, rfl⟩ : ∃ A c, v = .slice A l.length c := by
    have := h
    simp only [G.rdW, G.rd] at this
    obtain ⟨A, c, h1, _⟩ := this
    exact ⟨A, c, h1⟩
  have hne : ((l.length : Int) != (l.length : Int)) = false := by simp
  have hwr := IntWalk.i64_in ((l.length : Int) + 12) (by omega)
  have hsl : ∀ W, (Instr.sliceAt 24 (.slice (some ⟨g, 0, none⟩) l.length cap) none (some (.int .i64 ((l.length : Int) + 12))) none).run Tryz.prog W = .ok (.slice (some ⟨g, 0, none⟩) (l.length + 12) cap) W := fun W => by
    have := slice_to24_ (some ⟨g, 0, none⟩) l.length (l.length + 12) cap hcap W
    simpa using this
  have H := Lib.hid h
  have HV := Lib.hid hV
  have HC := Lib.hid hcR
  clear h hV hcR
  go_enter Tryz.func90, Tryz.ntmps90
  go_wp2_with fail
  go_loopw [6] (fun i wr => ∃ k : Nat, k ≤ l.length + 12 ∧ i = .int .i64 k ∧ Below w.heap.size w wr) (fun i _ => l.length + 12 - (intOf i).toNat)
  case atStart => exact ⟨0, by omega, rfl, Below.refl _ _⟩
  case round =>
    obtain ⟨k, hk, rfl, hBr⟩ := hrel
    have hV2 := G.ldW.next HV.out hBr
    have h2 := G.rdW.next H.out hBr
    simp only [G.ldW, G.ld] at hV2
    simp only [G.rdW, G.rd] at h2
    obtain ⟨g2, cap2, e2, _, _, hg2, hld, hmk⟩ := hV2
    injection e2 with e2 _ e3
    injection e2 with e2
    injection e2 with e2
    subst e2 e3
    obtain ⟨A2, c2, e2, hlc, hlm, hrl⟩ := h2
    injection e2 with e2 _ e3
    subst e2 e3
    have hec := ext_cell wr
    have hi0 : (0 : Int) ≤ (k : Int) := by omega
    by_cases hlt : k < l.length
    · obtain ⟨b, o, rfl, hb, hR⟩ := hrl (by omega)
      have hd := rdR_get hlt (cfR_len HC.out) hR
      have hc := ldR_get hlt (cfR_len HC.out) hld
      obtain ⟨x0, hx⟩ := cfTexts (cfR_get hlt HC.out)
      rw [hx] at hd hc
      simp only [rdE, G.rd, exists_eq_right, ldE, G.ld, Nat.zero_add] at hd hc
      have hd : wr.cell? ⟨b, o + (k), none⟩ = some (.string x0) := by have := hd.1; simpa [GS] using this
      have hc : wr.cell? ⟨g, k, none⟩ = some (.string x0) := by
        have := hc.1; simpa [GS] using this
      have d0 := hd
      have c0 := hc
      have hi1 : (k : Int) < (l.length : Int) + 12 := by omega
      have hi2 : (k : Int) < (l.length : Int) := by omega
      have t1 : decide ((k : Int) < (l.length : Int)) = true := decide_eq_true hi2
      have t2 : decide ((k : Int) ≥ (l.length : Int)) = false := decide_eq_false (by omega)
      have t3 : decide (k < l.length) = true := decide_eq_true hlt
      have t4 : decide (l.length ≤ k) = false := decide_eq_false (by omega)
      have t5 : (x0.toList == x0.toList) = true := by simp
      
      clear hd hc hx hR hrl hld hmk hlt H HV HC
      go_wp2_with fail
      go_quiet (fail)
      go_wp2_with fail
      go_roundw
      case rel => exact ⟨k + 1, by omega, by go_num, below_drewN hBr _⟩
      case measure => simp [intOf]; omega
    · by_cases hlt2 : k < l.length + 12
      · have c0 := hmk (k - l.length) 0 _ (by omega) rfl
        rw [show l.length + (k - l.length) = k by omega] at c0
        have c0 : wr.cell? ⟨g, k, none⟩ = some (.string (mkT (k - l.length))) := by simpa [KM] using c0
        have hi1 : (k : Int) < (l.length : Int) + 12 := by omega
        have t1 : decide ((k : Int) < (l.length : Int)) = false := decide_eq_false (by omega)
        have t2 : decide ((k : Int) ≥ (l.length : Int)) = true := decide_eq_true (by omega)
        have t3 : decide (k < l.length) = false := decide_eq_false hlt
        have t4 : decide (l.length ≤ k) = true := decide_eq_true (by omega)
        have hmark : ∀ y : Ext wr, Calls Tryz.prog 87 #[.int .i64 1, .int .i64 ((k - l.length : Nat) : Int)] y.w fun e w' => e = .returned (.string (mkT (k - l.length))) ∧ Below y.w.heap.size y.w w' := fun y => markText_c _ y.w (by omega)
        have hcast : (((k - l.length : Nat) : Nat) : Int) = (k : Int) - (l.length : Int) := by omega
        rw [hcast] at hmark
        have hw1 : IntKind.i64.wrap ((k : Int) - (l.length : Int)) = (k : Int) - (l.length : Int) := IntWalk.i64_in _ (by omega)
        clear hld hmk hrl H HV HC hcast
        generalize mkT (k - l.length) = m9 at *
        have Hmark := Lib.hid hmark
        clear hmark
        have t5 : (m9.toList == m9.toList) = true := by simp
        
        go_wp2_with fail
        refine wp_region_ext (by kernel_rfl) (by kernel_rfl) ?_
        repeat (go_big_quiet_step ((go_at_call 87; with_reducible exact ext_call (Hmark.out _))))
        refine wpQuiet_nil ?_
        intro _ hw'
        obtain ⟨xx, hw''⟩ := hw'
        subst hw''
        have hB2 := hBr.trans (xx.h.mono hBr.size)
        clear hec Hmark hw1 c0
        generalize xx.w = w9 at hB2 ⊢
        go_wp2_with fail
        go_roundw
        case rel => exact ⟨k + 1, by omega, by go_num, hB2⟩
        case measure => simp [intOf]; omega
      · obtain rfl : k = l.length + 12 := by omega
        clear hld hmk hec hrl
        go_wp2_with fail
        go_ret
        exact ⟨rfl, hBr⟩
end

end Go.Proofs.YtknojjlfgjkbiaaGreatDoor
