/- Texts wA0 wB0 wB1 wW0 wW1 wW2 wG0 wG1 wG2 wW3 wW4 wW5 wT0 wM0, joined. -/
import Derived.WalkKit
import Derived.ProofKit
import Derived.OpenShut
import Derived.Deep.QuietTactic
import Derived.BigQuiet
import Derived.Lib.Hide
import Derived.WalkLawsBesides
import Derived.WalkSpells
import Derived.Shelf.Abstract
import Derived.Deep.RegionHeld3
import Derived.Deep.Draws
import Derived.Laws.Rows
import Derived.Deep.AppendLies
import Derived.Maps.AppendAt
import Derived.Laws.MakeOwn
import Derived.Laws.EntriesVeiled
import Derived.Deep.RegionLaw
import Derived.RangeFuncNested
import Derived.RangeFuncLeaves
import Derived.OwnWalkIn
import Derived.TacticsInMore
import Derived.LoopNIn
import Derived.LoopIn
import Derived.IntWalk
import Derived.Test.YtlmbffnmjfbglabRows
set_option linter.unusedSimpArgs false
set_option linter.unusedVariables false
/- Words on memory: a block that is known whole; worlds under a name of their own; a region that draws its order and only reads, but for calls that leave old memory alone. -/
namespace Go.Proofs.Ytlmbffnmjfbglab
open Go.ChangeShapes Go.WideShapes Go.ChangeAt Go.RowKit

theorem below_drewN {B : Nat} {a w : World} (h : Below B a w) (n : Nat) : Below B a (w.drewN n) := ⟨h.os, h.tape, h.output, h.size, h.block⟩
/-- the world under a name of its own. -/
theorem nameW {P : Program} {c : Code} {Q : Exit → Act → World → Prop} {a : Act} {w : World} (h : ∀ W0, W0 = w → c.wp P Q a W0) : c.wp P Q a w := h w rfl
theorem nameC {P : Program} {f : FuncId} {args : Array Value} {w : World} {R : Ending → World → Prop} (h : ∀ W0, W0 = w → Calls P f args W0 R) : Calls P f args w R := h w rfl

theorem sr_drew (W0 : World) : (∀ b o, b < W0.heap.size → W0.drew.cell? ⟨b, o, none⟩ = W0.cell? ⟨b, o, none⟩) ∧ W0.heap.size ≤ W0.drew.heap.size ∧ Below W0.heap.size W0 W0.drew := ⟨fun _ _ _ => rfl, Nat.le_refl _, (Below.refl _ _).drew⟩
theorem sr_next {W0 w' w'' : World} (hb : Below w'.heap.size w' w'') (h : (∀ b o, b < W0.heap.size → w'.cell? ⟨b, o, none⟩ = W0.cell? ⟨b, o, none⟩) ∧ W0.heap.size ≤ w'.heap.size ∧ Below W0.heap.size W0 w') :
    (∀ b o, b < W0.heap.size → w''.cell? ⟨b, o, none⟩ = W0.cell? ⟨b, o, none⟩) ∧ W0.heap.size ≤ w''.heap.size ∧ Below W0.heap.size W0 w'' :=
  have h2 := h.2.2.trans (hb.mono h.2.1)
  ⟨fun b o hb => h2.cell (p := ⟨b, o, none⟩) hb, h2.size, h2⟩
theorem ret_bool {a b : Bool} (h : a = b) : Ending.returned (.bool a) = .returned (.bool b) := by rw [h]
theorem ret_int {k : IntKind} {a b : Int} (h : a = b) : Ending.returned (.int k a) = .returned (.int k b) := by rw [h]

/-- Block g is just the cells cs of element type t, none frozen. -/
def Blk (w : World) (g : Nat) (t : TypeId) (cs : Array Value) : Prop := w.heap[g]? = some (.cells cs t (0, 0))
section
variable {w w' : World} {g : Nat} {t : TypeId} {cs : Array Value}
theorem Blk.lt (h : Blk w g t cs) : g < w.heap.size := by
  rcases Nat.lt_or_ge g w.heap.size with hlt | hge
  · exact hlt
  · unfold Blk at h; rw [Array.getElem?_eq_none hge] at h; cases h
theorem Blk.cell (h : Blk w g t cs) (i : Nat) : w.cell? ⟨g, i, none⟩ = cs[i]? := cell_of_row w g i cs t (0, 0) h
theorem Blk.frozen (h : Blk w g t cs) (i : Nat) : w.frozen? ⟨g, i, none⟩ = false := by
  unfold Blk at h
  simp [World.frozen?, h]
theorem Blk.new (w : World) (t : TypeId) (cs : Array Value) : Blk (w.alloc (.cells cs t)) w.heap.size t cs := heap_alloc_new w _
theorem Blk.drew (h : Blk w g t cs) : Blk w.drew g t cs := h
theorem Blk.drewN (h : Blk w g t cs) (n : Nat) : Blk (w.drewN n) g t cs := h
theorem Blk.alloc (h : Blk w g t cs) (o : Obj) : Blk (w.alloc o) g t cs := (Below.heap_alloc w o g h.lt).trans h
theorem Blk.set_ (h : Blk w g t cs) (i : Nat) (u : Value) : Blk (w.setCell ⟨g, i, none⟩ u) g t (cs.setIfInBounds i u) := by
  unfold Blk at h ⊢
  simp [World.setCell, Array.getElem?_modify, h]
theorem Blk.far (h : Blk w g t cs) {p : Addr} (hp : g ≠ p.block) (u : Value) : Blk (w.setCell p u) g t cs := (Below.heap_setCell w p u g hp).trans h
theorem Blk.below {B : Nat} (h : Blk w g t cs) (hb : Below B w w') (hg : g < B) : Blk w' g t cs := (hb.block g hg).trans h
theorem Blk.grown {row : Option Nat} (h : Blk w g t cs) (hb : w.grownBy w' row) (hg : some g ≠ row) : Blk w' g t cs := (hb.block g h.lt hg).trans h
theorem Blk.ne_ {g' : Nat} {t' : TypeId} {cs' : Array Value} (h : Blk w g t cs) (h' : Blk w g' t' cs') (hne : t ≠ t') : g ≠ g' := by
  rintro rfl
  unfold Blk at h h'
  rw [h] at h'
  injection h' with h'
  injection h' with _ ht
  exact hne ht
theorem own_blk_ne {base : Nat} {e : TypeId} {size n : Nat} {v : Value} {xs : List Value} (h : w.ownsRow base e size v n xs) (hg : Blk w g t cs) (hne : e ≠ t) : v.ownBlock ≠ some g := by
  rcases h.2 with ⟨rfl, _⟩ | ⟨g', cap, cur, rfl, _, hh, _⟩
  · simp [Value.ownBlock]
  · intro he
    have : g' = g := by simpa [Value.ownBlock] using he
    subst this
    exact Blk.ne_ (t := e) hh hg hne rfl
end

/-- the first of a list for which p holds, by its place; -1 if none. -/
def idxI {α : Type} (p : α → Bool) (l : List α) : Int := match l.findIdx? p with | some i => i | none => -1
theorem idxI_hit {α : Type} {p : α → Bool} {l : List α} {k : Nat} (hk : k < l.length) (h : p l[k] = true) (hall : ∀ j (h : j < l.length), j < k → p l[j] = false) : idxI p l = k := by
  have : l.findIdx? p = some k := by
    rw [List.findIdx?_eq_some_iff_getElem]
    exact ⟨hk, h, fun j hj => by simp [hall j (by omega) hj]⟩
  simp [idxI, this]
theorem idxI_miss {α : Type} {p : α → Bool} {l : List α} (hall : ∀ j (h : j < l.length), p l[j] = false) : idxI p l = -1 := by
  have : l.findIdx? p = none := by
    rw [List.findIdx?_eq_none_iff]
    intro x hx
    obtain ⟨j, hj, rfl⟩ := List.getElem_of_mem hx
    simp [hall j hj]
  simp [idxI, this]
theorem find_cases {α : Type} (p : α → Bool) (l : List α) : (∃ k, ∃ h : k < l.length, idxI p l = k ∧ l.find? p = some l[k] ∧ p l[k] = true) ∨ (idxI p l = -1 ∧ l.find? p = none) := by
  rcases hf : l.findIdx? p with _ | i
  · refine .inr ⟨by simp [idxI, hf], ?_⟩
    rw [List.findIdx?_eq_none_iff] at hf
    rw [List.find?_eq_none]
    intro x hx; simp [hf x hx]
  · rw [List.findIdx?_eq_some_iff_getElem] at hf
    obtain ⟨h1, h2, h3⟩ := hf
    refine .inl ⟨i, h1, idxI_hit h1 h2 fun j hj hji => by simpa using h3 j hji, ?_, h2⟩
    rw [List.find?_eq_some_iff_getElem]
    exact ⟨h2, i, h1, rfl, fun j hj => by simpa using h3 j hj⟩
theorem all_of {α : Type} {p : α → Bool} {l : List α} (h : ∀ j (h : j < l.length), p l[j] = true) : l.all p = true := by
  rw [List.all_eq_true]
  intro x hx
  obtain ⟨j, hj, rfl⟩ := List.getElem_of_mem hx
  exact h j hj
theorem not_all {α : Type} {p : α → Bool} {l : List α} {j : Nat} (hj : j < l.length) (h : p l[j] = false) : l.all p = false := by
  rw [List.all_eq_false]
  exact ⟨l[j], List.getElem_mem hj, by simp [h]⟩
theorem forall_succ {α : Type} {p : α → Prop} {l : List α} {k : Nat} {hk : k < l.length} (hall : ∀ j (h : j < l.length), j < k → p l[j]) (h : p l[k]) : ∀ j (h : j < l.length), j < k + 1 → p l[j] := fun j hj hjk => by
  by_cases e : j = k
  · subst e; exact h
  · exact hall j hj (by omega)
end Go.Proofs.Ytlmbffnmjfbglab
/- A slice that reads as a list; append onto a row of the call's own from any source; make at several cells. -/
namespace Go.Proofs.Ytlmbffnmjfbglab
open Go.ChangeShapes Go.WideShapes Go.ChangeAt Go.RowKit

theorem block_of_add (a : Addr) (n : Nat) : (a.add n).block = a.block := by unfold Addr.add; split <;> rfl
theorem add_of_add (a : Addr) (i j : Nat) : (a.add i).add j = a.add (i + j) := by
  unfold Addr.add
  by_cases hi : i = 0 <;> by_cases hj : j = 0 <;> simp [hi, hj, Nat.add_assoc]

def Reads (w : World) (B size : Nat) (A : Option Addr) (n : Nat) (xs : List Value) : Prop :=
  xs.length = n * size ∧ (0 < n → ∃ ad, A = some ad ∧ ad.block < B ∧ ∀ j u, xs[j]? = some u → w.cell? (ad.add j) = some u)

section
variable {w w' : World} {B B' size n : Nat} {A : Option Addr} {xs : List Value}
theorem Reads.none_ : Reads w B size A 0 [] := ⟨by simp, fun h => absurd h (by omega)⟩
theorem Reads.at_ {k : Nat} (h : Reads w B 1 A n xs) (hk : k < n) : ∃ ad u, A = some ad ∧ ad.block < B ∧ xs[k]? = some u ∧ w.cell? (ad.add k) = some u := by
  obtain ⟨ad, e, hb, hc⟩ := h.2 (by omega)
  have hl : k < xs.length := by have := h.1; omega
  exact ⟨ad, xs[k], e, hb, List.getElem?_eq_getElem hl, hc k _ (List.getElem?_eq_getElem hl)⟩
theorem Reads.keep (h : Reads w B size A n xs) (hk : ∀ p : Addr, p.block < B → w'.cell? p = w.cell? p) : Reads w' B size A n xs :=
  ⟨h.1, fun hn => by
    obtain ⟨ad, e, hb, hc⟩ := h.2 hn
    exact ⟨ad, e, hb, fun j u hu => (hk _ (by rw [block_of_add]; exact hb)).trans (hc j u hu)⟩⟩
theorem Reads.more (h : Reads w B size A n xs) (hB : B ≤ B') : Reads w B' size A n xs :=
  ⟨h.1, fun hn => by
    obtain ⟨ad, e, hb, hc⟩ := h.2 hn
    exact ⟨ad, e, by omega, hc⟩⟩
theorem Reads.below (h : Reads w B size A n xs) (hb : Below B w w') : Reads w' B size A n xs := h.keep fun _ hp => hb.cell hp
theorem Reads.drew (h : Reads w B size A n xs) : Reads w.drew B size A n xs := h
theorem Reads.drewN (h : Reads w B size A n xs) (k : Nat) : Reads (w.drewN k) B size A n xs := h
theorem Reads.alloc (h : Reads w B size A n xs) (hB : B ≤ w.heap.size) (o : Obj) : Reads (w.alloc o) B size A n xs := h.keep fun p hp => World.cell?_alloc_lt w o p (by omega)
theorem Reads.setCell (h : Reads w B size A n xs) {p : Addr} (hB : B ≤ p.block) (u : Value) : Reads (w.setCell p u) B size A n xs :=
  h.keep fun q hq => World.cell?_setCell_other w p q u (fun e => by subst e; omega)
theorem Reads.grown (h : Reads w B size A n xs) {row : Option Nat} (hg : w.grownBy w' row) (hB : B ≤ w.heap.size) (hr : ∀ g, row = some g → B ≤ g) : Reads w' B size A n xs :=
  h.keep fun p hp => World.cell?_of_block (hg.block p.block (by omega) (fun e => by have := hr _ e.symm; omega))
theorem Reads.cut (h : Reads w B size A n xs) {k cap : Nat} (hk : k ≤ n) (hc : n ≤ cap) :
    Reads w B size (if cap = k then A else A.map (·.add (k * size))) (n - k) (xs.drop (k * size)) := by
  refine ⟨by rw [List.length_drop, h.1, Nat.sub_mul], fun hn => ?_⟩
  obtain ⟨ad, rfl, hb, hcell⟩ := h.2 (by omega)
  rw [if_neg (by omega)]
  refine ⟨ad.add (k * size), rfl, by rw [block_of_add]; exact hb, fun j u hu => ?_⟩
  rw [add_of_add]
  exact hcell _ u (by rw [← hu, List.getElem?_drop])
theorem Reads.of_own {base : Nat} {e : TypeId} {c : Nat} (h : w.ownsRow base e size (.slice A n c) n xs) : Reads w w.heap.size size A n xs := by
  refine ⟨h.1, fun hn => ?_⟩
  obtain ⟨g, cap, hv, _, hlt⟩ := h.form hn
  have hA : A = some ⟨g, 0, none⟩ := by injection hv
  subst hA
  exact ⟨_, rfl, hlt, h.cells (g := g) rfl⟩
end

section
variable {P : Program} (w : World)

theorem run_append_of_nil (base : Nat) (t ty e : TypeId) (i : TypeInfo) (size : Nat) (ht : P.underlying t = some (.slice e)) (hi : P.info? e = some i)
    (v : Value) (n : Nat) (xs : List Value) (hown : w.ownsRow base e size v n xs) (c : Nat) : (Builtin.append_ #[t, t] ty #[v, .slice none 0 c]).run P w = .ok v w := by
  rcases hown.2 with ⟨rfl, rfl⟩ | ⟨g, cap, cur, rfl, _, _, hnc, _⟩
  · simp [Builtin.append_, run_underlying ht, sizeOf, typeInfo, hi, Builtin.lenOf, Builtin.firstCells]
  · simp [Builtin.append_, run_underlying ht, sizeOf, typeInfo, hi, Builtin.lenOf, Builtin.firstCells, hnc, storeCells]

theorem run_append_any (base : Nat) (t ty e : TypeId) (i : TypeInfo) (z : Value) (size bytes : Nat) (ht : P.underlying t = some (.slice e)) (hi : P.info? e = some i) (hz : i.zero = some z)
    (hsize : i.size = size) (hby : i.bytes = bytes) (hzs : z.cells.size = size) (hsz : 0 < size)
    (v : Value) (n : Nat) (xs : List Value) (hown : w.ownsRow base e size v n xs)
    (B : Nat) (A : Option Addr) (m c : Nat) (news : List Value) (hr : Reads w B size A m news) (h1 : ∀ u ∈ news, u.oneCell' = true)
    (h63 : n + m ≤ maxLen) (hbytes : (n + m) * bytes ≤ 140737488355328) (hbase : base ≤ w.heap.size) :
    ∃ v' w', (Builtin.append_ #[t, t] ty #[v, .slice A m c]).run P w = .ok v' w' ∧ w'.ownsRow base e size v' (n + m) (xs ++ news) ∧ w.grownBy w' v.ownBlock ∧
      (v'.ownBlock = v.ownBlock ∨ v'.ownBlock = some w.heap.size) := by
  rcases A with _ | ad
  · have hm : m = 0 := by
      rcases Nat.eq_zero_or_pos m with h0 | h0
      · exact h0
      · obtain ⟨ad, h, _⟩ := hr.2 h0
        cases h
    subst hm
    have hn : news = [] := List.eq_nil_of_length_eq_zero (by simpa using hr.1)
    subst hn
    exact ⟨v, w, run_append_of_nil w base t ty e i size ht hi v n xs hown c, by simpa using hown, World.grownBy.refl w _, .inl rfl⟩
  · have hcells : ∀ j u, news[j]? = some u → w.cell? (ad.add j) = some u := by
      intro j u hu
      rcases Nat.eq_zero_or_pos m with h0 | h0
      · subst h0
        have hn : news = [] := List.eq_nil_of_length_eq_zero (by simpa using hr.1)
        subst hn
        simp at hu
      · obtain ⟨ad', h, _, hc⟩ := hr.2 h0
        injection h with h
        subst h
        exact hc j u hu
    obtain ⟨v', w', hrun, h2, h3, _, h5⟩ := run_append_own_at (P := P) w base t ty e i z size bytes ht hi hz hsize hby hzs hsz v n xs hown ad m c news hr.1 hcells h1 h63 hbytes hbase
    exact ⟨v', w', hrun, h2, h3, h5⟩

theorem wp_append_any {o : Oper} {a : Act} {K : Act → World → Prop} {Q : Exit → Act → World → Prop} (s x : Operand) (t : TypeId)
    (ho : o.op = .call { callee := .builtin .append, args := #[s, x], argTypes := #[t, t] })
    (base : Nat) (e : TypeId) (i : TypeInfo) (z : Value) (size bytes : Nat) (ht : P.underlying t = some (.slice e)) (hi : P.info? e = some i) (hz : i.zero = some z)
    (hsize : i.size = size) (hby : i.bytes = bytes) (hzs : z.cells.size = size) (hsz : 0 < size)
    (v : Value) (n : Nat) (xs : List Value) (hs : a.eval s = v) (hown : w.ownsRow base e size v n xs)
    (B : Nat) (A : Option Addr) (m c : Nat) (news : List Value) (hx : a.eval x = .slice A m c) (hr : Reads w B size A m news) (h1 : ∀ u ∈ news, u.oneCell' = true)
    (h63 : n + m ≤ maxLen) (hbytes : (n + m) * bytes ≤ 140737488355328) (hbase : base ≤ w.heap.size)
    (h : ∀ v' w', w'.ownsRow base e size v' (n + m) (xs ++ news) → w.grownBy w' v.ownBlock → (v'.ownBlock = v.ownBlock ∨ v'.ownBlock = some w.heap.size) → K (a.put o.dst v') w') : o.wp P a w K Q := by
  obtain ⟨v', w', hrun, h2, h3, h4⟩ := run_append_any (P := P) w base t o.type e i z size bytes ht hi hz hsize hby hzs hsz v n xs hown B A m c news hr h1 h63 hbytes hbase
  unfold Oper.wp execOp
  simp only [ho, resolve, invoke, builtin, Sem.run_bind, Sem.run_pure, Result.andThen_ok, List.map_toArray, List.map_cons, List.map_nil, hs, hx, hrun]
  exact h v' w' h2 h3 h4

theorem wpList_append_any {ops : Array Oper} {rest : List Oper} {o : Oper} {a : Act} {Q : Exit → Act → World → Prop} (hgd : o.guard = none) (s x : Operand) (t : TypeId)
    (ho : o.op = .call { callee := .builtin .append, args := #[s, x], argTypes := #[t, t] })
    (base : Nat) (e : TypeId) (i : TypeInfo) (z : Value) (size bytes : Nat) (ht : P.underlying t = some (.slice e)) (hi : P.info? e = some i) (hz : i.zero = some z)
    (hsize : i.size = size) (hby : i.bytes = bytes) (hzs : z.cells.size = size) (hsz : 0 < size)
    (v : Value) (n : Nat) (xs : List Value) (hs : a.eval s = v) (hown : w.ownsRow base e size v n xs)
    (B : Nat) (A : Option Addr) (m c : Nat) (news : List Value) (hx : a.eval x = .slice A m c) (hr : Reads w B size A m news) (h1 : ∀ u ∈ news, u.oneCell' = true)
    (h63 : n + m ≤ maxLen) (hbytes : (n + m) * bytes ≤ 140737488355328) (hbase : base ≤ w.heap.size)
    (h : ∀ v' w', w'.ownsRow base e size v' (n + m) (xs ++ news) → w.grownBy w' v.ownBlock → (v'.ownBlock = v.ownBlock ∨ v'.ownBlock = some w.heap.size) → wpList P ops Q rest (a.put o.dst v') w') : wpList P ops Q (o :: rest) a w :=
  wpList_plain hgd fun _ hK => wp_append_any w s x t ho base e i z size bytes ht hi hz hsize hby hzs hsz v n xs hs hown B A m c news hx hr h1 h63 hbytes hbase fun v' w' h2 h3 h4 => hK _ _ (h v' w' h2 h3 h4)

theorem step_append_any {ops : Array Oper} {o : Oper} {a : Act} {K : Act → World → Prop} {Q : Exit → Act → World → Prop} {E : Prop} (hgd : o.guard = none) (s x : Operand) (t : TypeId)
    (ho : o.op = .call { callee := .builtin .append, args := #[s, x], argTypes := #[t, t] })
    (base : Nat) (e : TypeId) (i : TypeInfo) (z : Value) (size bytes : Nat) (ht : P.underlying t = some (.slice e)) (hi : P.info? e = some i) (hz : i.zero = some z)
    (hsize : i.size = size) (hby : i.bytes = bytes) (hzs : z.cells.size = size) (hsz : 0 < size)
    (v : Value) (n : Nat) (xs : List Value) (hs : a.eval s = v) (hown : w.ownsRow base e size v n xs)
    (B : Nat) (A : Option Addr) (m c : Nat) (news : List Value) (hx : a.eval x = .slice A m c) (hr : Reads w B size A m news) (h1 : ∀ u ∈ news, u.oneCell' = true)
    (h63 : n + m ≤ maxLen) (hbytes : (n + m) * bytes ≤ 140737488355328) (hbase : base ≤ w.heap.size)
    (h : ∀ v' w', w'.ownsRow base e size v' (n + m) (xs ++ news) → w.grownBy w' v.ownBlock → (v'.ownBlock = v.ownBlock ∨ v'.ownBlock = some w.heap.size) → K (a.put o.dst v') w') :
    if Region.wanted o (yielded ops a.tmps) = true then Oper.wp P o a w K Q else E := by
  have hw : Region.wanted o (yielded ops a.tmps) = true := by simp [Region.wanted, hgd]
  rw [if_pos hw]
  exact wp_append_any w s x t ho base e i z size bytes ht hi hz hsize hby hzs hsz v n xs hs hown B A m c news hx hr h1 h63 hbytes hbase h
end

theorem run_make_rowN {P : Program} (t e : TypeId) (i : TypeInfo) (z : Value) (ht : P.underlying t = some (.slice e)) (hi : P.info? e = some i) (hz : i.zero = some z)
    (kl kc : IntKind) (n c : Nat) (hnc : n ≤ c) (hbytes : i.bytes * c ≤ 281474976710656) (h63 : c ≤ 9223372036854775807) (w : World) :
    (Instr.makeSlice t (.int kl (n : Int)) (.int kc (c : Int))).run P w = .ok (.slice (some ⟨w.heap.size, 0, none⟩) n c) (w.alloc (.cells (madeCells z.cells (c * i.size)) e)) := by
  have hb : (i.bytes : Int) * (c : Int) ≤ 281474976710656 := by
    have h : ((i.bytes * c : Nat) : Int) ≤ 281474976710656 := by omega
    rwa [Int.natCast_mul] at h
  have hr := run_make (P := P) w t e i z ht hi hz kl kc n c (by omega) (by omega) hb (by omega)
  simp only [Int.toNat_natCast] at hr
  exact hr

theorem only_drewN {a w : World} {row : Option Nat} (h : a.grownBy w row) (n : Nat) : a.grownBy (w.drewN n) row := ⟨h.os, h.tape, h.output, h.size, h.block⟩
theorem only_drew {a w : World} {row : Option Nat} (h : a.grownBy w row) : a.grownBy w.drew row := ⟨h.os, h.tape, h.output, h.size, h.block⟩
theorem only_alloc {a w : World} {row : Option Nat} (h : a.grownBy w row) (o : Obj) : a.grownBy (w.alloc o) row :=
  ⟨h.os, h.tape, h.output, Nat.le_trans h.size (by simp), fun i hi hne => (Below.heap_alloc w o i (Nat.lt_of_lt_of_le hi h.size)).trans (h.block i hi hne)⟩
theorem only_setCell {a w : World} {g : Nat} (h : a.grownBy w (some g)) {p : Addr} (hp : p.block = g ∨ a.heap.size ≤ p.block) (u : Value) : a.grownBy (w.setCell p u) (some g) :=
  ⟨h.os, h.tape, h.output, by simpa [World.setCell] using h.size, fun i hi hne => (Below.heap_setCell w p u i (by
    rintro rfl
    rcases hp with hp | hp
    · exact hne (by rw [hp])
    · omega)).trans (h.block i hi hne)⟩
theorem only_of_below {a w : World} (h : Below a.heap.size a w) (row : Option Nat) : a.grownBy w row := ⟨h.os, h.tape, h.output, h.size, fun i hi _ => h.block i hi⟩

end Go.Proofs.Ytlmbffnmjfbglab
/- A region that draws its order, reads old memory, and calls functions that leave old memory alone: one walk, in the text's order. -/
namespace Go.Proofs.Ytlmbffnmjfbglab
open Go.ChangeShapes Go.WideShapes Go.ChangeAt Go.RowKit

/-- a world that leaves what lay in w0 alone. -/
structure Ext (w0 : World) where
  w : World
  h : Below w0.heap.size w0 w
instance (w0 : World) : Nonempty (Ext w0) := ⟨⟨w0, Below.refl _ _⟩⟩
theorem ext_cell (w0 : World) : ∀ (x : Ext w0) b o, b < w0.heap.size → x.w.cell? ⟨b, o, none⟩ = w0.cell? ⟨b, o, none⟩ := fun x b o hb => x.h.cell (p := ⟨b, o, none⟩) hb
theorem wp_region_ext {P : Program} {id : Nat} {Q : Exit → Act → World → Prop} {a : Act} {w : World} {l : List Oper} (hm : P.follows .mixedOrders = true) (hB : Region.lexB .any l.toArray = true)
    (h : wpQuiet P l.toArray (fun w' => ∃ x : Ext w, w' = x.w) (fun a' => ∀ w', (∃ x : Ext w, w' = x.w) → Q .normal a' w') l a) : (Code.region id l.toArray true).wp P Q a w :=
  wp_region_quiet (C := fun w' => ∃ x : Ext w, w' = x.w) hm hB ⟨⟨w.drew, (Below.refl _ _).drew⟩, rfl⟩ (by simpa using h)
/-- a callee's contract in such a region. -/
theorem ext_call {P : Program} {f : FuncId} {args : Array Value} {w0 : World} {x : Ext w0} {v : Value} (h : Calls P f args x.w fun e w' => e = .returned v ∧ Below x.w.heap.size x.w w') :
    Calls P f args x.w fun e w'' => e = .returned v ∧ ∃ y : Ext w0, w'' = y.w :=
  h.mono fun _ w' ⟨he, hb⟩ => ⟨he, ⟨w', x.h.trans (hb.mono x.h.size)⟩, rfl⟩
theorem ext_call_same {P : Program} {f : FuncId} {args : Array Value} {w0 : World} {x : Ext w0} {v : Value} (h : Calls P f args x.w fun e w' => e = .returned v ∧ x.w = w') :
    Calls P f args x.w fun e w'' => e = .returned v ∧ ∃ y : Ext w0, w'' = y.w :=
  h.mono fun _ _ ⟨he, hb⟩ => ⟨he, x, hb.symm⟩
end Go.Proofs.Ytlmbffnmjfbglab
/- Slots: Valid of the program and of the reference. -/
namespace Go.Proofs.Ytlmbffnmjfbglab
open Go.ChangeShapes Go.WideShapes Go.ChangeAt Go.RowKit

structure Slot where
  off : Int
  per : Int
  len : Int
deriving DecidableEq
def Slot.val (s : Slot) : Value := .agg #[.int .i64 s.off, .int .i64 s.per, .int .i64 s.len]
def Slot.ok (s : Slot) : Prop := 1 ≤ s.per ∧ s.per ≤ 2000 ∧ 1 ≤ s.len ∧ s.len ≤ s.per ∧ 0 ≤ s.off ∧ s.off ≤ s.per - s.len
instance (s : Slot) : Decidable s.ok := by unfold Slot.ok; infer_instance
def validS (s : Slot) : Bool := decide s.ok

theorem valid_c (s : Slot) (w : World) : Calls Try.prog 46 #[.agg #[.int .i64 s.off, .int .i64 s.per, .int .i64 s.len]] w fun e w' => e = .returned (.bool (validS s)) ∧ Below w.heap.size w w' := by
  have hb : Below w.heap.size w (w.alloc (.cells #[.int .i64 s.off, .int .i64 s.per, .int .i64 s.len] 46)) := (Below.refl _ w).alloc (Nat.le_refl _) _
  by_cases h : s.ok
  · have hv : validS s = true := by simp [validS, h]
    obtain ⟨h1, h2, h3, h4, h5, h6⟩ := h
    obtain ⟨o, p, l⟩ := s
    simp only at *
    rw [hv]; clear hv
    go_enter Try.func46, Try.ntmps46
    go_wp2
    go_ret
    exact ⟨rfl, hb⟩
  · have hv : validS s = false := by simp [validS, h]
    obtain ⟨o, p, l⟩ := s
    simp only [Slot.ok] at *
    rw [hv]; clear hv
    by_cases h1 : 1 ≤ p
    · by_cases h2 : p ≤ 2000
      · by_cases h3 : 1 ≤ l
        · by_cases h4 : l ≤ p
          · by_cases h5 : 0 ≤ o
            · have h6 : ¬ o ≤ p - l := by omega
              clear h
              go_enter Try.func46, Try.ntmps46
              go_wp2
              go_ret
              exact ⟨rfl, hb⟩
            · clear h
              go_enter Try.func46, Try.ntmps46
              go_wp2
              go_ret
              exact ⟨rfl, hb⟩
          · clear h
            go_enter Try.func46, Try.ntmps46
            go_wp2
            go_ret
            exact ⟨rfl, hb⟩
        · clear h
          go_enter Try.func46, Try.ntmps46
          go_wp2
          go_ret
          exact ⟨rfl, hb⟩
      · clear h
        go_enter Try.func46, Try.ntmps46
        go_wp2
        go_ret
        exact ⟨rfl, hb⟩
    · clear h
      go_enter Try.func46, Try.ntmps46
      go_wp2
      go_ret
      exact ⟨rfl, hb⟩
end Go.Proofs.Ytlmbffnmjfbglab
/- gcd by a closure that calls itself. -/
namespace Go.Proofs.Ytlmbffnmjfbglab
open Go.ChangeShapes Go.WideShapes Go.ChangeAt Go.RowKit

theorem gcd_step (a b : Nat) : Nat.gcd b (a % b) = Nat.gcd a b := by
  rw [Nat.gcd_comm b, ← Nat.gcd_rec b a, Nat.gcd_comm]

set_option maxRecDepth 100000 in
theorem step_c (B : Nat) (n : Nat) : ∀ (a b : Nat) (w : World), b ≤ n → a ≤ 1000000 → b ≤ 1000000 → B < w.heap.size → w.cell? ⟨B, 0, none⟩ = some (.func (.func 89) #[] #[.pointer (some ⟨B, 0, none⟩)]) →
    Calls Try.prog 89 #[.int .i64 a, .int .i64 b, .pointer (some ⟨B, 0, none⟩)] w fun e w' => e = .returned (.int .i64 (Nat.gcd a b)) ∧ Below w.heap.size w w' := by
  induction n with
  | zero =>
    intro a b w hb ha hb2 hB hc
    obtain rfl : b = 0 := by omega
    rw [Nat.gcd_zero_right]
    go_enter Try.func89, Try.ntmps89
    go_wp2
    go_ret
    exact ⟨rfl, Below.refl _ _⟩
  | succ n ih =>
    intro a b w hb ha hb2 hB hc
    by_cases h0 : b = 0
    · subst h0
      rw [Nat.gcd_zero_right]
      clear ih
      go_enter Try.func89, Try.ntmps89
      go_wp2
      go_ret
      exact ⟨rfl, Below.refl _ _⟩
    · have hlt : a % b < b := Nat.mod_lt _ (by omega)
      have hcall : ∀ x : Ext w, Calls Try.prog 89 #[.int .i64 b, .int .i64 ((a % b : Nat) : Int), .pointer (some ⟨B, 0, none⟩)] x.w fun e w' => e = .returned (.int .i64 (Nat.gcd b (a % b))) ∧ Below x.w.heap.size x.w w' := fun x =>
        ih b (a % b) x.w (by omega) (by omega) (by omega) (Nat.lt_of_lt_of_le hB x.h.size) ((x.h.cell (p := ⟨B, 0, none⟩) hB).trans hc)
      rw [gcd_step] at hcall
      have hm : ((a % b : Nat) : Int) = (a : Int) % (b : Int) := rfl
      rw [hm] at hcall
      clear hm
      have hb0 : ((b : Int) == 0) = false := by simp; omega
      have hb1 : (b : Int) ≠ 0 := by omega
      have hec := ext_cell w
      clear ih hlt
      go_enter Try.func89, Try.ntmps89
      go_wp2_with fail
      refine wp_region_ext (by kernel_rfl) (by kernel_rfl) ?_
      repeat (go_big_quiet_step ((go_at_call 89; exact ext_call (hcall _))))
      refine wpQuiet_nil ?_
      rintro w' ⟨x, rfl⟩
      clear hcall hec
      have hx := x.h
      generalize x.w = w' at hx ⊢
      go_wp2
      go_ret
      exact ⟨rfl, hx⟩

theorem gcd_c (a b : Int) (w : World) (ha : 0 ≤ a) (hb : 0 ≤ b) (ha2 : a ≤ 1000000) (hb2 : b ≤ 1000000) :
    Calls Try.prog 69 #[.int .i64 a, .int .i64 b] w fun e w' => e = .returned (.int .i64 (Nat.gcd a.toNat b.toNat)) ∧ Below w.heap.size w w' := by
  obtain ⟨m, rfl⟩ := Int.eq_ofNat_of_zero_le ha
  obtain ⟨n, rfl⟩ := Int.eq_ofNat_of_zero_le hb
  rw [Int.toNat_natCast, Int.toNat_natCast]
  go_enter Try.func69, Try.ntmps69
  go_wp2_with fail
  refine nameC fun W0 hW0 => ?_
  have hB0 : Below w.heap.size w W0 := by subst hW0; exact (Below.refl _ _).alloc (Nat.le_refl _) _
  have hs0 : w.heap.size < W0.heap.size := by subst hW0; simp
  have hc0 : W0.cell? ⟨w.heap.size, 0, none⟩ = some (.func (.func 89) #[] #[.pointer (some ⟨w.heap.size, 0, none⟩)]) := by subst hW0; exact (Blk.new w 33 _).cell 0
  clear hW0
  refine (step_c w.heap.size n m n W0 (Nat.le_refl _) (by omega) (by omega) hs0 hc0).mono ?_
  rintro e w1 ⟨rfl, hb1⟩
  have hB1 := hB0.trans (hb1.mono hB0.size)
  clear hB0 hs0 hc0 hb1
  go_wp2
  go_ret
  exact ⟨rfl, hB1⟩
end Go.Proofs.Ytlmbffnmjfbglab
/- apart, Disjoint, first. -/
namespace Go.Proofs.Ytlmbffnmjfbglab
open Go.ChangeShapes Go.WideShapes Go.ChangeAt Go.RowKit

def Slot.g (a b : Slot) : Int := (Nat.gcd a.per.toNat b.per.toNat : Nat)
def Slot.d (a b : Slot) : Int := (b.off - a.off) % Slot.g a b
def apartB (a b : Slot) : Bool := decide (a.len ≤ Slot.d a b) && decide (Slot.d a b + b.len ≤ Slot.g a b)

theorem tmod_mod (x g : Int) : x.tmod g % g = x % g := by
  have h1 := Int.mul_tdiv_add_tmod x g
  have h2 : x.tmod g = x + g * (- x.tdiv g) := by rw [Int.mul_neg]; omega
  rw [h2, Int.add_mul_emod_self_left]

theorem g_pos {a b : Slot} (ha : a.ok) : 1 ≤ Slot.g a b ∧ Slot.g a b ≤ 2000 := by
  obtain ⟨h1, h2, h3, h4, h5, h6⟩ := ha
  unfold Slot.g
  have hp : 0 < Nat.gcd a.per.toNat b.per.toNat := Nat.gcd_pos_of_pos_left _ (by omega)
  have hl : Nat.gcd a.per.toNat b.per.toNat ≤ a.per.toNat := Nat.gcd_le_left _ (by omega)
  omega

set_option maxHeartbeats 400000 in
theorem apart_c (a b : Slot) (w : World) (ha : a.ok) (hb : b.ok) :
    Calls Try.prog 47 #[.agg #[.int .i64 a.off, .int .i64 a.per, .int .i64 a.len], .agg #[.int .i64 b.off, .int .i64 b.per, .int .i64 b.len]] w fun e w' => e = .returned (.bool (apartB a b)) ∧ Below w.heap.size w w' := by
  have hg := g_pos (b := b) ha
  have hfin : apartB a b = (decide (a.len ≤ Slot.d a b) && decide (Slot.d a b + b.len ≤ Slot.g a b)) := rfl
  have hd : Slot.d a b = (b.off - a.off).tmod (Slot.g a b) % Slot.g a b := (tmod_mod _ _).symm
  have hcall : ∀ W : World, Calls Try.prog 69 #[.int .i64 a.per, .int .i64 b.per] W fun e w' => e = .returned (.int .i64 (Slot.g a b)) ∧ Below W.heap.size W w' := fun W => gcd_c _ _ W (by have := ha.1; omega) (by have := hb.1; omega) (by have := ha.2.1; omega) (by have := hb.2.1; omega)
  obtain ⟨a1, a2, a3, a4, a5, a6⟩ := ha
  obtain ⟨b1, b2, b3, b4, b5, b6⟩ := hb
  generalize apartB a b = r at hfin ⊢
  generalize Slot.g a b = g at *
  generalize Slot.d a b = d at *
  obtain ⟨o, p, l⟩ := a
  obtain ⟨o', p', l'⟩ := b
  simp only at *
  have Hd := Lib.hid hd
  have Hfin := Lib.hid hfin
  clear hd hfin
  have t1 : -g < (o' - o).tmod g := by have := Int.lt_tmod_of_pos (o' - o) (b := g) (by omega); omega
  have t2 : (o' - o).tmod g < g := Int.tmod_lt_of_pos _ (by omega)
  have d1 : 0 ≤ (o' - o).tmod g % g := Int.emod_nonneg _ (by omega)
  have d2 : (o' - o).tmod g % g < g := Int.emod_lt_of_pos _ (by omega)
  have g0 : g ≠ 0 := by omega
  obtain ⟨g1, g2⟩ := hg
  go_enter Try.func47, Try.ntmps47
  go_wp2_with fail
  refine nameC fun W0 hW0 => ?_
  have hB0 : Below w.heap.size w W0 := by subst hW0; exact ((Below.refl _ _).alloc (Nat.le_refl _) _).alloc (by simp) _
  have hs0 : w.heap.size + 1 < W0.heap.size := by subst hW0; simp
  have c0 : Blk W0 w.heap.size 77 #[.int .i64 o, .int .i64 p, .int .i64 l] := by subst hW0; exact (Blk.new _ _ _).alloc _
  have c1 : Blk W0 (w.heap.size + 1) 77 #[.int .i64 o', .int .i64 p', .int .i64 l'] := by subst hW0; have := Blk.new (w.alloc (.cells #[.int .i64 o, .int .i64 p, .int .i64 l] 77)) 77 #[.int .i64 o', .int .i64 p', .int .i64 l']; rwa [World.size_alloc] at this
  clear hW0
  refine (hcall W0).mono ?_
  rintro e w1 ⟨rfl, hb1⟩
  have hB1 := hB0.trans (hb1.mono hB0.size)
  have c0' := c0.below hb1 (by omega)
  have c1' := c1.below hb1 (by omega)
  clear hcall hB0 c0 c1 hb1
  have e0 : w1.cell? ⟨w.heap.size, 0, none⟩ = some (.int .i64 o) := c0'.cell 0
  have e2 : w1.cell? ⟨w.heap.size, 2, none⟩ = some (.int .i64 l) := c0'.cell 2
  have e3 : w1.cell? ⟨w.heap.size + 1, 0, none⟩ = some (.int .i64 o') := c1'.cell 0
  have e5 : w1.cell? ⟨w.heap.size + 1, 2, none⟩ = some (.int .i64 l') := c1'.cell 2
  clear c0' c1'
  go_wp2
  · go_ret
    exact ⟨ret_bool (by rw [Hfin.out, Hd.out, decide_eq_true (p := l ≤ (o' - o).tmod g % g) (by assumption)]; rfl), hB1⟩
  · have hn : ¬ l ≤ (o' - o).tmod g % g := by omega
    go_ret
    exact ⟨ret_bool (by rw [Hfin.out, Hd.out, decide_eq_false hn]; rfl), hB1⟩

def disjB (a b : Slot) : Bool := validS a && validS b && apartB a b
theorem ok_of {s : Slot} (h : validS s = true) : s.ok := by simpa [validS] using h

theorem disj_c (a b : Slot) (w : World) :
    Calls Try.prog 22 #[.agg #[.int .i64 a.off, .int .i64 a.per, .int .i64 a.len], .agg #[.int .i64 b.off, .int .i64 b.per, .int .i64 b.len]] w fun e w' => e = .returned (.bool (disjB a b)) ∧ Below w.heap.size w w' := by
  have hva := fun W => valid_c a W
  have hvb := fun W => valid_c b W
  have hap : validS a = true → validS b = true → ∀ W, _ := fun h1 h2 W => apart_c a b W (ok_of h1) (ok_of h2)
  have hfin : disjB a b = (validS a && validS b && apartB a b) := rfl
  generalize disjB a b = r at hfin ⊢
  generalize validS a = va at *
  generalize validS b = vb at *
  generalize apartB a b = ap at *
  obtain ⟨o, p, l⟩ := a
  obtain ⟨o', p', l'⟩ := b
  simp only at *
  go_enter Try.func22, Try.ntmps22
  go_wp2_with fail
  refine nameC fun W0 hW0 => ?_
  have hB0 : Below w.heap.size w W0 := by subst hW0; exact ((Below.refl _ _).alloc (Nat.le_refl _) _).alloc (by simp) _
  have hs0 : w.heap.size + 1 < W0.heap.size := by subst hW0; simp
  have c0 : Blk W0 w.heap.size 46 #[.int .i64 o, .int .i64 p, .int .i64 l] := by subst hW0; exact (Blk.new _ _ _).alloc _
  have c1 : Blk W0 (w.heap.size + 1) 46 #[.int .i64 o', .int .i64 p', .int .i64 l'] := by subst hW0; have := Blk.new (w.alloc (.cells #[.int .i64 o, .int .i64 p, .int .i64 l] 46)) 46 #[.int .i64 o', .int .i64 p', .int .i64 l']; rwa [World.size_alloc] at this
  clear hW0
  cases va with
  | false =>
    refine (hva W0).mono ?_
    rintro e w1 ⟨rfl, hb1⟩
    have hB1 := hB0.trans (hb1.mono hB0.size)
    clear hB0 c0 c1 hb1 hva hvb hap
    subst hfin
    go_wp2
    go_ret
    exact ⟨rfl, hB1⟩
  | true =>
    refine (hva W0).mono ?_
    rintro e w1 ⟨rfl, hb1⟩
    have hB1 := hB0.trans (hb1.mono hB0.size)
    have hs1 := hb1.size
    have c0' := c0.below hb1 (by omega)
    have c1' := c1.below hb1 (by omega)
    clear hB0 c0 c1 hb1 hva
    have e3 : w1.cell? ⟨w.heap.size + 1, 0, none⟩ = some (.int .i64 o') := c1'.cell 0
    have e4 : w1.cell? ⟨w.heap.size + 1, 1, none⟩ = some (.int .i64 p') := c1'.cell 1
    have e5 : w1.cell? ⟨w.heap.size + 1, 2, none⟩ = some (.int .i64 l') := c1'.cell 2
    cases vb with
    | false =>
      subst hfin
      clear hap
      go_wp2_with fail
      refine (hvb w1).mono ?_
      rintro e w2 ⟨rfl, hb2⟩
      have hB2 := hB1.trans (hb2.mono hB1.size)
      clear hB1 c0' c1' hb2 hvb e3 e4 e5
      go_wp2
      go_ret
      exact ⟨rfl, hB2⟩
    | true =>
      simp only [Bool.true_and] at hfin
      have hap' := hap rfl rfl
      have Hfin := Lib.hid hfin
      clear hap hfin
      go_wp2_with fail
      refine (hvb w1).mono ?_
      rintro e w2 ⟨rfl, hb2⟩
      have hB2 := hB1.trans (hb2.mono hB1.size)
      have c0 := c0'.below hb2 (by omega)
      have c1 := c1'.below hb2 (by omega)
      clear hB1 c0' c1' hb2 hvb e3 e4 e5
      have e0 : w2.cell? ⟨w.heap.size, 0, none⟩ = some (.int .i64 o) := c0.cell 0
      have e1 : w2.cell? ⟨w.heap.size, 1, none⟩ = some (.int .i64 p) := c0.cell 1
      have e2 : w2.cell? ⟨w.heap.size, 2, none⟩ = some (.int .i64 l) := c0.cell 2
      have e3 : w2.cell? ⟨w.heap.size + 1, 0, none⟩ = some (.int .i64 o') := c1.cell 0
      have e4 : w2.cell? ⟨w.heap.size + 1, 1, none⟩ = some (.int .i64 p') := c1.cell 1
      have e5 : w2.cell? ⟨w.heap.size + 1, 2, none⟩ = some (.int .i64 l') := c1.cell 2
      go_wp2_with fail
      refine (hap' w2).mono ?_
      rintro e w3 ⟨rfl, hb3⟩
      have hB3 := hB2.trans (hb3.mono hB2.size)
      clear hB2 c0 c1 hb3 hap' e0 e1 e2 e3 e4 e5
      go_wp2
      go_ret
      exact ⟨ret_bool Hfin.out.symm, hB3⟩
end Go.Proofs.Ytlmbffnmjfbglab
/- Rows of three integers in memory: windows and slots; the contracts of slices.IndexFunc and slices.ContainsFunc at them. -/
namespace Go.Proofs.Ytlmbffnmjfbglab
open Go.ChangeShapes Go.WideShapes Go.ChangeAt Go.RowKit

structure Win where
  part : Int
  start : Int
  len : Int
deriving DecidableEq, Inhabited
abbrev Tri := Int × Int × Int
def Slot.tri (s : Slot) : Tri := (s.off, s.per, s.len)
def Win.tri (s : Win) : Tri := (s.part, s.start, s.len)
instance : Inhabited Slot := ⟨⟨0, 0, 0⟩⟩

section
variable {α : Type} {f : α → Tri}
def RdG (f : α → Tri) (w : World) (B : Nat) (A : Option Addr) (l : List α) : Prop :=
  0 < l.length → ∃ b o, A = some ⟨b, o, none⟩ ∧ b < B ∧ ∀ i (h : i < l.length), w.cell? ⟨b, o + i * 3, none⟩ = some (.int .i64 (f l[i]).1) ∧ w.cell? ⟨b, o + i * 3 + 1, none⟩ = some (.int .i64 (f l[i]).2.1) ∧ w.cell? ⟨b, o + i * 3 + 2, none⟩ = some (.int .i64 (f l[i]).2.2)
theorem RdG.nil {w : World} {B : Nat} {A : Option Addr} : RdG f w B A [] := fun h => absurd h (by simp)
theorem RdG.keep {w w' : World} {B : Nat} {A : Option Addr} {l : List α} (h : RdG f w B A l) (hb : Below B w w') : RdG f w' B A l := fun hn => by
  obtain ⟨b, o, rfl, hbB, hc⟩ := h hn
  exact ⟨b, o, rfl, hbB, fun i hi => ⟨(hb.cell (p := ⟨b, _, none⟩) hbB).trans (hc i hi).1, (hb.cell (p := ⟨b, _, none⟩) hbB).trans (hc i hi).2.1, (hb.cell (p := ⟨b, _, none⟩) hbB).trans (hc i hi).2.2⟩⟩
theorem RdG.more {w : World} {B B' : Nat} {A : Option Addr} {l : List α} (h : RdG f w B A l) (hb : B ≤ B') : RdG f w B' A l := fun hn => by
  obtain ⟨b, o, rfl, hbB, hc⟩ := h hn
  exact ⟨b, o, rfl, by omega, hc⟩
theorem RdG.below {w w' : World} {A : Option Addr} {l : List α} (h : RdG f w w.heap.size A l) (hb : Below w.heap.size w w') : RdG f w' w'.heap.size A l := (h.keep hb).more hb.size
def cellsG (f : α → Tri) (x : α) : List Value := [.int .i64 (f x).1, .int .i64 (f x).2.1, .int .i64 (f x).2.2]
theorem cellsG_length (l : List α) : (l.flatMap (cellsG f)).length = l.length * 3 := by
  induction l with
  | nil => rfl
  | cons r l ih => simp [cellsG, ih]; omega
theorem cellsG_get : ∀ (l : List α) (i : Nat) (h : i < l.length), (l.flatMap (cellsG f))[i * 3]? = some (.int .i64 (f l[i]).1) ∧ (l.flatMap (cellsG f))[i * 3 + 1]? = some (.int .i64 (f l[i]).2.1) ∧ (l.flatMap (cellsG f))[i * 3 + 2]? = some (.int .i64 (f l[i]).2.2)
  | r :: l, 0, _ => ⟨rfl, rfl, rfl⟩
  | r :: l, i + 1, h => by
    have ih := cellsG_get l i (by simpa using h)
    have e : ∀ j, (List.flatMap (cellsG f) (r :: l))[j + 3]? = (List.flatMap (cellsG f) l)[j]? := fun j => by simp [cellsG]
    rw [show (i + 1) * 3 = i * 3 + 3 from by omega, show i * 3 + 3 + 1 = i * 3 + 1 + 3 from by omega, show i * 3 + 3 + 2 = i * 3 + 2 + 3 from by omega, e, e, e]
    simpa using ih
theorem RdG.of_own {w : World} {base : Nat} {t : TypeId} {v : Value} {n : Nat} {l : List α} (hn : n = l.length) (h : w.ownsRow base t 3 v n (l.flatMap (cellsG f))) : ∃ A c, v = .slice A n c ∧ RdG f w w.heap.size A l := by
  subst hn
  rcases h.2 with ⟨rfl, h0⟩ | ⟨g, cap, cur, rfl, _, hh, _⟩
  · exact ⟨none, 0, by rw [h0], fun h => by omega⟩
  · refine ⟨_, cap, rfl, fun _ => ⟨g, 0, rfl, Blk.lt (t := t) hh, fun i hi => ?_⟩⟩
    have hc := h.cells (g := g) rfl
    obtain ⟨q0, q1, q2⟩ := cellsG_get (f := f) l i hi
    have e : ∀ j, (⟨g, 0, none⟩ : Addr).add j = ⟨g, 0 + j, none⟩ := fun j => by unfold Addr.add; split <;> simp_all
    have a0 := hc _ _ q0
    have a1 := hc _ _ q1
    have a2 := hc _ _ q2
    rw [e] at a0 a1 a2
    exact ⟨a0, a1, a2⟩
end
theorem idxI_ge {α : Type} (p : α → Bool) (l : List α) : decide (0 ≤ idxI p l) = l.any p := by
  rcases find_cases p l with ⟨k, hk, hi, _, hp⟩ | ⟨hi, hf⟩
  · rw [hi]
    have : l.any p = true := List.any_eq_true.2 ⟨_, List.getElem_mem hk, hp⟩
    rw [this]; simp
  · rw [hi]
    rw [List.find?_eq_none] at hf
    have : l.any p = false := by rw [List.any_eq_false]; exact fun x hx => by simpa using hf x hx
    rw [this]; simp

/-- what is asked of a predicate that is handed to the library. -/
def PredWin (g : Nat) (lb : Array Value) (p : Win → Bool) (w : World) : Prop :=
  ∀ (W : World) (r : Win), Below w.heap.size w W → Calls Try.prog g (#[.agg #[.int .i64 r.part, .int .i64 r.start, .int .i64 r.len]] ++ lb) W fun e w' => e = .returned (.bool (p r)) ∧ Below W.heap.size W w'

/-- what is asked of a predicate that is handed to the library. -/
def PredSlot (g : Nat) (lb : Array Value) (p : Slot → Bool) (w : World) : Prop :=
  ∀ (W : World) (r : Slot), Below w.heap.size w W → Calls Try.prog g (#[.agg #[.int .i64 r.off, .int .i64 r.per, .int .i64 r.len]] ++ lb) W fun e w' => e = .returned (.bool (p r)) ∧ Below W.heap.size W w'

theorem indexSlot_c (g : Nat) (lb : Array Value) (p : Slot → Bool) (eg : ∀ args w, (callFunc g args).run Try.prog w = .ok (.enter g args) w) (l : List Slot) (A : Option Addr) (c : Nat) (w : World)
    (hp : PredSlot g lb p w) (h : RdG Slot.tri w w.heap.size A l) (hl : l.length ≤ 9223372036854775807) :
    Calls Try.prog 68 #[.slice A l.length c, .func (.func g) #[] lb] w fun e w' => e = .returned (.int .i64 (idxI p l)) ∧ Below w.heap.size w w' := by
  go_enter Try.func68, Try.ntmps68
  go_wp2
  go_loopw [5, 8] (fun _ i wr => ∃ k : Nat, k ≤ l.length ∧ i = .int .i64 k ∧ Below w.heap.size w wr ∧ Hid (∀ j (h : j < l.length), j < k → p l[j] = false)) (fun _ i _ => l.length - (intOf i).toNat)
  case atStart => exact ⟨0, Nat.zero_le _, rfl, Below.refl _ _, fun j _ h => absurd h (by omega)⟩
  case round =>
    obtain ⟨k, hk, rfl, hB, hall⟩ := hrel
    by_cases hlt : k < l.length
    · obtain ⟨b, o, rfl, hb, hc⟩ := h.keep hB (by omega)
      obtain ⟨c0, c1, c2⟩ := hc k hlt
      change _ = some (Value.int .i64 l[k].off) at c0
      change _ = some (Value.int .i64 l[k].per) at c1
      change _ = some (Value.int .i64 l[k].len) at c2
      have hcall := hp wr l[k] hB
      clear hc hp h
      have hs := hB.size
      cases hq : p l[k] with
      | true =>
        have hfin := idxI_hit hlt hq hall.out
        have Hfin := Lib.hid hfin
        rw [hq] at hcall
        clear hfin hq hall
        generalize l[k] = r at c0 c1 c2 hcall
        go_wp2_with (go_at_fn g; refine hcall.mono ?_; rintro e w' ⟨rfl, hb'⟩)
        go_ret
        exact ⟨ret_int Hfin.out.symm, hB.trans (hb'.mono hs)⟩
      | false =>
        have hnext : ∀ j (h : j < l.length), j < k + 1 → p l[j] = false := forall_succ (p := fun r => p r = false) hall.out hq
        have Hnext := Lib.hid hnext
        rw [hq] at hcall
        clear hnext hq hall
        generalize l[k] = r at c0 c1 c2 hcall
        go_wp2_with (go_at_fn g; refine hcall.mono ?_; rintro e w' ⟨rfl, hb'⟩)
        go_roundw
        case rel => exact ⟨k + 1, by omega, by go_num, hB.trans (hb'.mono hs), Hnext⟩
        case measure => simp [intOf]; omega
    · go_wp2
      go_ret
      exact ⟨ret_int (idxI_miss fun j hj => hall.out j hj (by omega)).symm, hB⟩

theorem containsSlot_c (g : Nat) (lb : Array Value) (p : Slot → Bool) (eg : ∀ args w, (callFunc g args).run Try.prog w = .ok (.enter g args) w) (l : List Slot) (A : Option Addr) (c : Nat) (w : World)
    (hp : PredSlot g lb p w) (h : RdG Slot.tri w w.heap.size A l) (hl : l.length ≤ 9223372036854775807) :
    Calls Try.prog 44 #[.slice A l.length c, .func (.func g) #[] lb] w fun e w' => e = .returned (.bool (l.any p)) ∧ Below w.heap.size w w' := by
  have hI := indexSlot_c g lb p eg l A c w hp h hl
  rw [← idxI_ge]
  generalize idxI p l = q at hI ⊢
  clear h hp
  go_enter Try.func44, Try.ntmps44
  go_wp2_with fail
  refine hI.mono ?_
  rintro e w1 ⟨rfl, hb1⟩
  clear hI
  go_wp2
  go_ret
  exact ⟨rfl, hb1⟩

theorem slots1_c (w : World) : PredSlot 45 #[] (fun s => !validS s) w := fun W r hb => by
  change Calls _ _ _ _ fun e w' => e = .returned (.bool (!validS r)) ∧ Below W.heap.size W w'
  have hI := fun W => valid_c r W
  have hB : Below W.heap.size W (W.alloc (.cells #[.int .i64 r.off, .int .i64 r.per, .int .i64 r.len] 46)) := (Below.refl _ _).alloc (Nat.le_refl _) _
  clear hb
  obtain ⟨o, p, l⟩ := r
  generalize validS ⟨o, p, l⟩ = q at hI ⊢
  simp only at *
  go_enter Try.func45, Try.ntmps45
  go_wp2_with fail
  refine (hI _).mono ?_
  rintro e w' ⟨rfl, hb'⟩
  have hB' := hB.trans (hb'.mono hB.size)
  clear hI hB hb'
  go_wp2
  go_ret
  exact ⟨rfl, hB'⟩
end Go.Proofs.Ytlmbffnmjfbglab
/- Partitions in memory, and the contracts of slices.ContainsFunc at partitions and of times. -/
namespace Go.Proofs.Ytlmbffnmjfbglab
open Go.ChangeShapes Go.WideShapes Go.ChangeAt Go.RowKit

/-- a slice as a value. -/
structure SlV where
  a : Option Addr
  n : Nat
  c : Nat
  deriving Inhabited
structure Part where
  name : ByteArray
  period : Int
  length : Int
  mem : Int
  semas : SlV
  events : Int
  boards : Int
  bufs : SlV
  ports : SlV
  procs : SlV
  deriving Inhabited
def Part.cells (p : Part) : List Value := [.string p.name, .int .i64 p.period, .int .i64 p.length, .int .i64 p.mem, .slice p.semas.a p.semas.n p.semas.c, .int .i64 p.events, .int .i64 p.boards, .slice p.bufs.a p.bufs.n p.bufs.c, .slice p.ports.a p.ports.n p.ports.c, .slice p.procs.a p.procs.n p.procs.c]
abbrev Part.val (p : Part) : Value := .agg #[.string p.name, .int .i64 p.period, .int .i64 p.length, .int .i64 p.mem, .slice p.semas.a p.semas.n p.semas.c, .int .i64 p.events, .int .i64 p.boards, .slice p.bufs.a p.bufs.n p.bufs.c, .slice p.ports.a p.ports.n p.ports.c, .slice p.procs.a p.procs.n p.procs.c]
def RdPart (w : World) (B : Nat) (A : Option Addr) (l : List Part) : Prop :=
  0 < l.length → ∃ b o, A = some ⟨b, o, none⟩ ∧ b < B ∧ ∀ i (h : i < l.length) j v, l[i].cells[j]? = some v → w.cell? ⟨b, o + i * 10 + j, none⟩ = some v
theorem RdPart.keep {w w' : World} {B : Nat} {A : Option Addr} {l : List Part} (h : RdPart w B A l) (hb : Below B w w') : RdPart w' B A l := fun hn => by
  obtain ⟨b, o, rfl, hbB, hc⟩ := h hn
  exact ⟨b, o, rfl, hbB, fun i hi j v hv => (hb.cell (p := ⟨b, _, none⟩) hbB).trans (hc i hi j v hv)⟩
theorem RdPart.more {w : World} {B B' : Nat} {A : Option Addr} {l : List Part} (h : RdPart w B A l) (hb : B ≤ B') : RdPart w B' A l := fun hn => by
  obtain ⟨b, o, rfl, hbB, hc⟩ := h hn
  exact ⟨b, o, rfl, by omega, hc⟩
theorem RdPart.below {w w' : World} {A : Option Addr} {l : List Part} (h : RdPart w w.heap.size A l) (hb : Below w.heap.size w w') : RdPart w' w'.heap.size A l := (h.keep hb).more hb.size

def PredPart (g : Nat) (lb : Array Value) (p : Part → Bool) (w : World) : Prop :=
  ∀ (W : World) (r : Part), Below w.heap.size w W → Calls Try.prog g (#[r.val] ++ lb) W fun e w' => e = .returned (.bool (p r)) ∧ Below W.heap.size W w'

theorem indexPart_c (g : Nat) (lb : Array Value) (p : Part → Bool) (eg : ∀ args w, (callFunc g args).run Try.prog w = .ok (.enter g args) w) (l : List Part) (A : Option Addr) (c : Nat) (w : World)
    (hp : PredPart g lb p w) (h : RdPart w w.heap.size A l) (hl : l.length ≤ 9223372036854775807) :
    Calls Try.prog 88 #[.slice A l.length c, .func (.func g) #[] lb] w fun e w' => e = .returned (.int .i64 (idxI p l)) ∧ Below w.heap.size w w' := by
  go_enter Try.func88, Try.ntmps88
  go_wp2
  go_loopw [5, 8] (fun _ i wr => ∃ k : Nat, k ≤ l.length ∧ i = .int .i64 k ∧ Below w.heap.size w wr ∧ Hid (∀ j (h : j < l.length), j < k → p l[j] = false)) (fun _ i _ => l.length - (intOf i).toNat)
  case atStart => exact ⟨0, Nat.zero_le _, rfl, Below.refl _ _, fun j _ h => absurd h (by omega)⟩
  case round =>
    obtain ⟨k, hk, rfl, hB, hall⟩ := hrel
    by_cases hlt : k < l.length
    · obtain ⟨b, o, rfl, hb, hc⟩ := h.keep hB (by omega)
      have hcall := hp wr l[k] hB
      have hck := hc k hlt
      clear hc hp h
      have hs := hB.size
      have hfin : p l[k] = true → idxI p l = k := fun hq => idxI_hit hlt hq hall.out
      have hnext : p l[k] = false → ∀ j (h : j < l.length), j < k + 1 → p l[j] = false := fun hq => forall_succ (p := fun r => p r = false) hall.out hq
      have Hfin := Lib.hid hfin
      have Hnext := Lib.hid hnext
      clear hfin hnext hall
      generalize l[k] = r at hck hcall Hfin Hnext
      have c0 := hck 0 _ rfl
      have c1 := hck 1 _ rfl
      have c2 := hck 2 _ rfl
      have c3 := hck 3 _ rfl
      have c4 := hck 4 _ rfl
      have c5 := hck 5 _ rfl
      have c6 := hck 6 _ rfl
      have c7 := hck 7 _ rfl
      have c8 := hck 8 _ rfl
      have c9 := hck 9 _ rfl
      rw [Nat.add_zero] at c0
      clear hck
      cases hq : p r with
      | true =>
        have hfin := Lib.hid (Hfin.out hq)
        rw [hq] at hcall
        clear Hfin Hnext hq
        go_wp2_with (go_at_fn g; refine hcall.mono ?_; rintro e w' ⟨rfl, hb'⟩)
        go_ret
        exact ⟨ret_int hfin.out.symm, hB.trans (hb'.mono hs)⟩
      | false =>
        have hnext := Lib.hid (Hnext.out hq)
        rw [hq] at hcall
        clear Hfin Hnext hq
        go_wp2_with (go_at_fn g; refine hcall.mono ?_; rintro e w' ⟨rfl, hb'⟩)
        go_roundw
        case rel => exact ⟨k + 1, by omega, by go_num, hB.trans (hb'.mono hs), hnext⟩
        case measure => simp [intOf]; omega
    · go_wp2
      go_ret
      exact ⟨ret_int (idxI_miss fun j hj => hall.out j hj (by omega)).symm, hB⟩

theorem containsPart_c (g : Nat) (lb : Array Value) (p : Part → Bool) (eg : ∀ args w, (callFunc g args).run Try.prog w = .ok (.enter g args) w) (l : List Part) (A : Option Addr) (c : Nat) (w : World)
    (hp : PredPart g lb p w) (h : RdPart w w.heap.size A l) (hl : l.length ≤ 9223372036854775807) :
    Calls Try.prog 66 #[.slice A l.length c, .func (.func g) #[] lb] w fun e w' => e = .returned (.bool (l.any p)) ∧ Below w.heap.size w w' := by
  have hI := indexPart_c g lb p eg l A c w hp h hl
  rw [← idxI_ge]
  generalize idxI p l = q at hI ⊢
  clear h hp
  go_enter Try.func66, Try.ntmps66
  go_wp2_with fail
  refine hI.mono ?_
  rintro e w1 ⟨rfl, hb1⟩
  clear hI
  go_wp2
  go_ret
  exact ⟨rfl, hb1⟩

def timeBad (frame : Int) (p : Part) : Bool := decide (p.period < 1) || (decide (frame % p.period ≠ 0) || (decide (p.length < 1) || decide (p.period < p.length)))
theorem times1_c (frame : Int) (Bn : Nat) (cs : Array Value) (w : World) (h : Blk w Bn 24 cs) (hc : cs[2]? = some (.int .i64 frame)) (h1 : 1 ≤ frame) (h2 : frame ≤ 2000) : PredPart 67 #[.pointer (some ⟨Bn, 0, none⟩)] (timeBad frame) w := fun W r hb => by
  change Calls _ _ _ _ fun e w' => e = .returned (.bool (timeBad frame r)) ∧ Below W.heap.size W w'
  have hB : Below W.heap.size W (W.alloc (.cells r.cells.toArray 56)) := (Below.refl _ _).alloc (Nat.le_refl _) _
  have c2 : (W.alloc (.cells r.cells.toArray 56)).cell? ⟨Bn, 2, none⟩ = some (.int .i64 frame) := by
    rw [((h.below hb h.lt).alloc _).cell]; exact hc
  simp only [Part.cells] at hB c2
  clear hb h hc
  by_cases a1 : r.period < 1
  · have hv : timeBad frame r = true := by simp [timeBad, a1]
    rw [hv]; clear hv
    go_enter Try.func67, Try.ntmps67
    go_wp2
    go_ret
    exact ⟨rfl, hB⟩
  · have a1' : 1 ≤ r.period := by omega
    have p0 : r.period ≠ 0 := by omega
    have e0 : 0 ≤ frame % r.period := Int.emod_nonneg _ p0
    by_cases a2 : frame % r.period = 0
    · by_cases a3 : r.length < 1
      · have hv : timeBad frame r = true := by simp [timeBad, a3]
        rw [hv]; clear hv
        have b2 : (frame % r.period != 0) = false := by simp [a2]
        clear a2
        go_enter Try.func67, Try.ntmps67
        go_wp2
        go_ret
        exact ⟨rfl, hB⟩
      · by_cases a4 : r.period < r.length
        · have hv : timeBad frame r = true := by simp [timeBad, a4]
          rw [hv]; clear hv
          have b2 : (frame % r.period != 0) = false := by simp [a2]
          clear a2
          go_enter Try.func67, Try.ntmps67
          go_wp2
          go_ret
          exact ⟨rfl, hB⟩
        · have hv : timeBad frame r = false := by simp [timeBad, a1, a2, a3, a4]
          rw [hv]; clear hv
          have b2 : (frame % r.period != 0) = false := by simp [a2]
          clear a2
          go_enter Try.func67, Try.ntmps67
          go_wp2
          go_ret
          exact ⟨rfl, hB⟩
    · have hv : timeBad frame r = true := by simp [timeBad, a2]
      rw [hv]; clear hv
      have b2 : (frame % r.period != 0) = true := by simp [a2]
      clear a2
      go_enter Try.func67, Try.ntmps67
      go_wp2
      go_ret
      exact ⟨rfl, hB⟩

/-- the times of a module are valid. -/
def timesV (frame : Int) (l : List Part) : Bool := decide (1 ≤ frame) && (decide (frame ≤ 2000) && (decide (l.length ≤ 6) && !(l.any (timeBad frame))))

theorem times_c (name : ByteArray) (mem frame : Int) (l : List Part) (A : Option Addr) (c : Nat) (w : World) (h : RdPart w w.heap.size A l) (hl : l.length ≤ 9223372036854775807) :
    Calls Try.prog 43 #[.agg #[.string name, .int .i64 mem, .int .i64 frame, .slice A l.length c]] w fun e w' => e = .returned (.bool (timesV frame l)) ∧ Below w.heap.size w w' := by
  have hB : Below w.heap.size w (w.alloc (.cells #[.string name, .int .i64 mem, .int .i64 frame, .slice A l.length c] 24)) := (Below.refl _ w).alloc (Nat.le_refl _) _
  by_cases h1 : 1 ≤ frame
  · by_cases h2 : frame ≤ 2000
    · by_cases h3 : l.length ≤ 6
      · have hcon := containsPart_c 67 #[.pointer (some ⟨w.heap.size, 0, none⟩)] (timeBad frame) (enters_of Try.func67 (by kernel_rfl) rfl) l A c _ (times1_c frame w.heap.size _ _ (Blk.new w 24 #[.string name, .int .i64 mem, .int .i64 frame, .slice A l.length c]) rfl h1 h2) (h.below hB) hl
        have hv : timesV frame l = !(l.any (timeBad frame)) := by simp [timesV, h1, h2, h3]
        rw [hv]
        generalize l.any (timeBad frame) = q at hcon ⊢
        clear h hv
        go_enter Try.func43, Try.ntmps43
        go_wp2_with fail
        refine hcon.mono ?_
        rintro e w' ⟨rfl, hb'⟩
        have hB' := hB.trans (hb'.mono hB.size)
        clear hcon hB hb'
        go_wp2
        go_ret
        exact ⟨rfl, hB'⟩
      · have hv : timesV frame l = false := by simp [timesV, h3]
        rw [hv]; clear hv h
        go_enter Try.func43, Try.ntmps43
        go_wp2
        go_ret
        exact ⟨rfl, hB⟩
    · have hv : timesV frame l = false := by simp [timesV, h2]
      rw [hv]; clear hv h
      go_enter Try.func43, Try.ntmps43
      go_wp2
      go_ret
      exact ⟨rfl, hB⟩
  · have hv : timesV frame l = false := by simp [timesV, h1]
    rw [hv]; clear hv h
    go_enter Try.func43, Try.ntmps43
    go_wp2
    go_ret
    exact ⟨rfl, hB⟩
end Go.Proofs.Ytlmbffnmjfbglab
/- The contract of Slots. -/
namespace Go.Proofs.Ytlmbffnmjfbglab
open Go.ChangeShapes Go.WideShapes Go.ChangeAt Go.RowKit

def RdInt (w : World) (B : Nat) (A : Option Addr) (l : List Int) : Prop :=
  0 < l.length → ∃ b o, A = some ⟨b, o, none⟩ ∧ b < B ∧ ∀ i (h : i < l.length), w.cell? ⟨b, o + i, none⟩ = some (.int .i64 l[i])
theorem RdInt.keep {w w' : World} {B : Nat} {A : Option Addr} {l : List Int} (h : RdInt w B A l) (hb : Below B w w') : RdInt w' B A l := fun hn => by
  obtain ⟨b, o, rfl, hbB, hc⟩ := h hn
  exact ⟨b, o, rfl, hbB, fun i hi => (hb.cell (p := ⟨b, _, none⟩) hbB).trans (hc i hi)⟩
theorem RdInt.more {w : World} {B B' : Nat} {A : Option Addr} {l : List Int} (h : RdInt w B A l) (hb : B ≤ B') : RdInt w B' A l := fun hn => by
  obtain ⟨b, o, rfl, hbB, hc⟩ := h hn
  exact ⟨b, o, rfl, by omega, hc⟩
theorem RdInt.below {w w' : World} {A : Option Addr} {l : List Int} (h : RdInt w w.heap.size A l) (hb : Below w.heap.size w w') : RdInt w' w'.heap.size A l := (h.keep hb).more hb.size


theorem info23 : (Try.prog.info? 46).map (fun i => (i.zero, i.size, i.bytes)) = some (some (.agg #[.int .i64 0, .int .i64 0, .int .i64 0]), 3, 24) := by kernel_rfl
def mkSlot (o : Int) (p : Part) : Slot := ⟨o, p.period, p.length⟩
def zipS (os : List Int) (ps : List Part) : List Slot := List.zipWith mkSlot os ps
theorem zipS_len (os : List Int) (ps : List Part) (h : os.length = ps.length) : (zipS os ps).length = ps.length := by simp [zipS, h]
theorem zipS_get (os : List Int) (ps : List Part) (k : Nat) (h : k < (zipS os ps).length) (h1 : k < os.length) (h2 : k < ps.length) : (zipS os ps)[k] = ⟨os[k], ps[k].period, ps[k].length⟩ := by simp [zipS, mkSlot]
def slotsV (frame : Int) (ps : List Part) (os : List Int) : List Slot × Int :=
  if timesV frame ps && decide (os.length = ps.length) then (if (zipS os ps).any (fun s => !validS s) then ([], 2) else (zipS os ps, 0)) else ([], 2)

/-- a list of slots and an error. -/
def RetSlots (w : World) (q : List Slot × Int) (e : Ending) (w' : World) : Prop := ∃ A c, e = .returned (.tuple #[.slice A q.1.length c, .int .i64 q.2]) ∧ RdG Slot.tri w' w'.heap.size A q.1 ∧ Below w.heap.size w w'
theorem retSlots_none {w w' : World} {n : Int} (h : Below w.heap.size w w') : RetSlots w ([], n) (.returned (.tuple #[.slice none 0 0, .int .i64 n])) w' := ⟨none, 0, rfl, RdG.nil, h⟩

set_option maxRecDepth 100000 in
set_option maxHeartbeats 1000000 in
theorem slots_c (name : ByteArray) (mem frame : Int) (l : List Part) (A : Option Addr) (c : Nat) (os : List Int) (A' : Option Addr) (c' : Nat) (w : World) (h : RdPart w w.heap.size A l) (h' : RdInt w w.heap.size A' os) (hl : l.length ≤ 9223372036854775807) (hl' : os.length ≤ 9223372036854775807) :
    Calls Try.prog 21 #[.agg #[.string name, .int .i64 mem, .int .i64 frame, .slice A l.length c], .slice A' os.length c'] w (RetSlots w (slotsV frame l os)) := by
  have hB : Below w.heap.size w (w.alloc (.cells #[.string name, .int .i64 mem, .int .i64 frame, .slice A l.length c] 24)) := (Below.refl _ w).alloc (Nat.le_refl _) _
  have hblk := Blk.new w 24 #[.string name, .int .i64 mem, .int .i64 frame, .slice A l.length c]
  have ht := times_c name mem frame l A c _ (h.below hB) hl
  go_enter Try.func21, Try.ntmps21
  go_wp2_with fail
  refine ht.mono ?_
  clear ht
  cases hv : timesV frame l with
  | false =>
    have hs : slotsV frame l os = ([], 2) := by simp [slotsV, hv]
    have Hs := Lib.hid hs
    clear hs hv h h'
    rintro e w1 ⟨rfl, hb1⟩
    have hB1 := hB.trans (hb1.mono hB.size)
    clear hB hblk hb1
    go_wp2
    go_ret2
    rw [Hs.out]
    exact retSlots_none hB1
  | true =>
    rintro e w1 ⟨rfl, hb1⟩
    have hB1 := hB.trans (hb1.mono hB.size)
    have hk1 := hblk.below hb1 hblk.lt
    have hz1 : w.heap.size + 1 ≤ w1.heap.size := by have := hb1.size; simpa using this
    clear hB hblk hb1
    have q3 : w1.cell? ⟨w.heap.size, 3, none⟩ = some (.slice A l.length c) := hk1.cell 3
    have hl6 : l.length ≤ 6 := by simp [timesV] at hv; omega
    by_cases hlen : os.length = l.length
    · have hne : ((os.length : Int) != (l.length : Int)) = false := by simp [hlen]
      have Hlen := Lib.hid hlen
      clear hlen
      have hs : slotsV frame l os = if (zipS os l).any (fun s => !validS s) then ([], 2) else (zipS os l, 0) := by simp [slotsV, hv, Hlen.out]
      have Hs := Lib.hid hs
      clear hs hv
      go_wp2
      refine nameW fun W1 hW1 => ?_
      subst hW1
      obtain ⟨i0, hi0, hz0, hz1', hz2⟩ := info_parts info23
      have hZ := Lib.hid (zipS_len os l Hlen.out)
      go_loopw [6, 23] (fun v i wr => ∃ k : Nat, k ≤ l.length ∧ i = .int .i64 k ∧ Below w.heap.size w wr ∧ wr.ownsRow (w.heap.size + 1) 46 3 v k (((zipS os l).take k).flatMap (cellsG Slot.tri)) ∧ w.heap.size + 1 ≤ wr.heap.size) (fun _ i _ => l.length - (intOf i).toNat)
      case atStart => exact ⟨0, Nat.zero_le _, rfl, hB1, World.ownsRow_nil _ _ _ _, hz1⟩
      case round =>
        clear hB1 hk1 q3 hz1
        obtain ⟨k, hk, rfl, hB, hown, hzr⟩ := hrel
        have hex : ∃ A' c', u6 = .slice A' k c' := by
          rcases hown.2 with ⟨rfl, rfl⟩ | ⟨g, cap, cur, rfl, _⟩
          · exact ⟨none, 0, rfl⟩
          · exact ⟨_, _, rfl⟩
        obtain ⟨Av, cv, rfl⟩ := hex
        by_cases hlt : k < l.length
        · have hlt' : k < os.length := by have := Hlen.out; omega
          obtain ⟨b, o, rfl, hb, hc⟩ := h.keep hB (by omega)
          obtain ⟨b', o', rfl, hb', hc'⟩ := h'.keep hB (by omega)
          have hck := hc k hlt
          have d0 := hc' k hlt'
          clear hc h hc' h'
          have htk : Hid (((zipS os l).take (k + 1)).flatMap (cellsG Slot.tri) = ((zipS os l).take k).flatMap (cellsG Slot.tri) ++ [.int .i64 os[k], .int .i64 l[k].period, .int .i64 l[k].length]) := by
            have hkz : k < (zipS os l).length := by rw [hZ.out]; exact hlt
            rw [List.take_succ_eq_append_getElem hkz, List.flatMap_append, zipS_get os l k hkz hlt' hlt]; rfl
          generalize l[k] = r at hck htk
          generalize os[k] = ok at d0 htk
          have c0 := hck 0 _ rfl
          have c1 := hck 1 _ rfl
          have c2 := hck 2 _ rfl
          have c3 := hck 3 _ rfl
          have c4 := hck 4 _ rfl
          have c5 := hck 5 _ rfl
          have c6 := hck 6 _ rfl
          have c7 := hck 7 _ rfl
          have c8 := hck 8 _ rfl
          have c9 := hck 9 _ rfl
          rw [Nat.add_zero] at c0
          clear hck
          have hi0' : (0 : Int) ≤ (k : Int) := by omega
          have hi1 : (k : Int) < (l.length : Int) := by omega
          have hi2 : (k : Int) < (os.length : Int) := by omega
          have hnew : ∀ g, (Value.slice Av k cv).ownBlock = some g → w.heap.size ≤ g := fun g hg => by have := hown.lt g hg; omega
          have Hnew := Lib.hid hnew
          clear hnew
          go_wp2
          refine nameW fun W0 hW0 => ?_
          have hbox : Blk W0 wr.heap.size 56 r.cells.toArray := by subst hW0; exact Blk.new wr 56 _
          have hz0' : W0.heap.size = wr.heap.size + 1 := by subst hW0; simp
          have hB0 : Below w.heap.size w W0 := by subst hW0; exact hB.alloc hB.size _
          have hown0 : W0.ownsRow (w.heap.size + 1) 46 3 (.slice Av k cv) k (((zipS os l).take k).flatMap (cellsG Slot.tri)) := by subst hW0; exact hown.alloc _
          have e0 : W0.cell? ⟨b', o' + k, none⟩ = some (.int .i64 ok) := by
            subst hW0; rw [World.cell?_alloc_lt _ _ _ (by have := hB.size; simp; omega)]; exact d0
          clear hW0
          have hbz : wr.heap.size < W0.heap.size := by omega
          have hzle : w.heap.size + 1 ≤ W0.heap.size := by omega
          have hb0z : b' < W0.heap.size := by omega
          generalize wr.heap.size = bx at hbox hbz ⊢
          have e1 : W0.cell? ⟨bx, 1, none⟩ = some (.int .i64 r.period) := hbox.cell 1
          have e2 : W0.cell? ⟨bx, 2, none⟩ = some (.int .i64 r.length) := hbox.cell 2
          have hn1 : some b' ≠ (Value.slice Av k cv).ownBlock := fun e => by have := hown0.lt b' e.symm; omega
          have hn2 : some bx ≠ (Value.slice Av k cv).ownBlock := fun e => own_blk_ne hown0 hbox (by decide) e.symm
          have Hn1 := Lib.hid hn1
          have Hn2 := Lib.hid hn2
          have E0 := Lib.hid (show ∀ o'', (W0.alloc o'').cell? ⟨b', o' + k, none⟩ = some (.int .i64 ok) from fun o'' => (World.cell?_alloc_lt _ _ _ (by simpa using hb0z)).trans e0)
          have E1 := Lib.hid (show ∀ o'', (W0.alloc o'').cell? ⟨bx, 1, none⟩ = some (.int .i64 r.period) from fun o'' => (World.cell?_alloc_lt _ _ _ (by simpa using hbz)).trans e1)
          have E2 := Lib.hid (show ∀ o'', (W0.alloc o'').cell? ⟨bx, 2, none⟩ = some (.int .i64 r.length) from fun o'' => (World.cell?_alloc_lt _ _ _ (by simpa using hbz)).trans e2)
          clear c0 c1 c2 c3 c4 c5 c6 c7 c8 c9 d0 hown hB hz0' hzr hn1 hn2
          go_region_held3 (fun w' => w'.cell? ⟨b', o' + k, none⟩ = some (.int .i64 ok) ∧ w'.cell? ⟨bx, 1, none⟩ = some (.int .i64 r.period) ∧ w'.cell? ⟨bx, 2, none⟩ = some (.int .i64 r.length)) (first | go_keep | exact ⟨(World.cell?_of_block (hgrow.block b' (by simp; omega) Hn1.out)).trans (E0.out _), (World.cell?_of_block (hgrow.block bx (by simp; omega) Hn2.out)).trans (E1.out _), (World.cell?_of_block (hgrow.block bx (by simp; omega) Hn2.out)).trans (E2.out _)⟩)
            ((refine step_append_lies _ (by rfl) (.tmp 28) (.tmp 38) 41 (by rfl) (w.heap.size + 1) 46 i0 _ 3 24 Try.underlying41 hi0 hz0 hz1' hz2 (by rfl) (by decide) (.slice Av k cv) k _ (by rfl) ((hown0.alloc _).drew) ⟨W0.heap.size, 0, none⟩ 1 1 [.int .i64 ok, .int .i64 r.period, .int .i64 r.length] (by rfl) (by rfl) (World.news_of_block (cs := #[.int .i64 ok, .int .i64 r.period, .int .i64 r.length]) (t := 46) (fr := (0, 0)) (heap_alloc_new W0 _)) (by simp [Value.oneCell']) (by omega) (by unfold maxLen; omega) (by omega) (by simp; omega) (W0.heap.size + 1) (by simp) ?_; intro g cap w2 hown2 hgrow hg hgl))
          have hB2 := (((hB0.alloc (by omega) _).drew).grown hgrow (by simp; omega) Hnew.out)
          have hsz2 : w.heap.size + 1 ≤ w2.heap.size := by have := hgrow.size; simp at this; omega
          rename_i hHeld
          clear hHeld hgrow hown0 hbox hB0 e0 e1 e2 hg hgl
          go_wp2
          go_roundw
          case rel => exact ⟨k + 1, by omega, by go_num, hB2, by rw [htk.out]; exact hown2, hsz2⟩
          case measure => simp [intOf]; omega
        · obtain rfl : k = l.length := by omega
          rw [List.take_of_length_le (by rw [hZ.out]; exact Nat.le_refl _)] at hown
          obtain ⟨A2, c2, hv2, hrd⟩ := RdG.of_own (f := Slot.tri) hZ.out.symm hown
          injection hv2 with e1 e2 e3
          subst e1 e3
          clear hown h h' e2
          have hcon := containsSlot_c 45 #[] (fun s => !validS s) (enters_of Try.func45 (by kernel_rfl) rfl) (zipS os l) Av cv wr (slots1_c wr) hrd (by rw [hZ.out]; omega)
          rw [hZ.out] at hcon
          generalize hq : (zipS os l).any (fun s => !validS s) = q at hcon
          have Hq := Lib.hid hq
          clear hq
          go_wp2_with fail
          refine hcon.mono ?_
          rintro e w' ⟨rfl, hb'⟩
          have hB' := hB.trans (hb'.mono hB.size)
          have hrd' := hrd.below hb'
          clear hcon hB hb' hrd
          cases q with
          | true =>
            go_wp2
            go_ret2
            rw [Hs.out, if_pos Hq.out]
            exact retSlots_none hB'
          | false =>
            go_wp2
            go_ret2
            rw [Hs.out, if_neg (by rw [Hq.out]; simp)]
            exact ⟨Av, cv, by simp [hZ.out], hrd', hB'⟩
    · have hs : slotsV frame l os = ([], 2) := by simp [slotsV, hlen]
      have hne : ((os.length : Int) != (l.length : Int)) = true := by simp; omega
      have Hs := Lib.hid hs
      clear hs hv h h' hlen
      go_wp2
      go_ret2
      rw [Hs.out]
      exact retSlots_none hB1
end Go.Proofs.Ytlmbffnmjfbglab
/- A range over a function whose rounds are counted: the iterator hands its k-th element to round k, and ends only because a round says so; the caller's invariant bounds the rounds. -/
namespace Go.Proofs.Ytlmbffnmjfbglab
open Go.ChangeShapes Go.WideShapes Go.ChangeAt Go.RowKit

/-- what an endless iterator does with a yield: round k gets element k; it goes on while told so. -/
def SeqK (P : Program) (m : Nat) (gf : Nat) (lb : Array Value) (enc : Nat → Array Value) (Bn : Nat) (w : World) : Prop :=
  ∀ (l N : Nat) (J : Nat → World → Prop) (Jx : World → Prop) (W : World), N ≤ 10000000 → Below w.heap.size w W → (∀ k W1, J k W1 → k < N) →
    (∀ k W1, J k W1 → YieldAt Fence.wide (m - 1) P l (enc k) W1 fun e W' => (e = .returned (.bool true) ∧ J (k + 1) W' ∧ W'.heap[Bn]? = W1.heap[Bn]?) ∨ (e = .returned (.bool false) ∧ Jx W')) →
    J 0 W → CallsIn Fence.wide m P gf (#[.func (.yield l) #[] #[]] ++ lb) W fun e W' => (∃ v, e = .returned v) ∧ Jx W'

/-- how a round's body may be left. -/
def postK (Bn : Nat) (I : Nat → World → Prop) (Ix : Code → World → Prop) (k : Nat) (W : World) : Exit → Act → World → Prop
  | .normal, _, W' => KeepsOthers W W' ∧ W'.heap[Bn]? = W.heap[Bn]? ∧ I (k + 1) W'
  | .ret, _, W' => KeepsOthers W W' ∧ Ix .ret W'
  | .exit id, _, W' => KeepsOthers W W' ∧ Ix (.exit id) W'
  | _, _, _ => False

theorem wpIn_rangeK {P : Program} {n : Nat} {g : Operand} {ps : Array Tmp} {assign body : Code} {Q : Exit → Act → World → Prop} {a : Act} {w : World} {gf : Nat} {lb : Array Value}
    (hg : a.eval g = .func (.func gf) #[] lb) (eg : ∀ args w, (callFunc gf args).run P w = .ok (.enter gf args) w)
    (enc : Nat → Array Value) (hps : ∀ k, (enc k).size = ps.size) (N Bn : Nat) (hB : Bn < w.heap.size) (hseq : SeqK P (n - 1) gf lb enc Bn w)
    (I : Nat → World → Prop) (Ix : Code → World → Prop) (hI : OwnFrom w.heap.size I) (hIx : OwnFrom w.heap.size Ix) (hN : ∀ k W, I k W → k < N) (hNB : N ≤ 10000000) (h0 : I 0 w) (a₁ : Nat → Act)
    (hassign : ∀ (l k : Nat) (W : World) (K : Act → World → Prop), K (a₁ k) W →
      assign.wpIn (Fence.wide.inRound l) (n - 1 - 1) P (Exit.then K fun _ _ _ => False) { tmps := (ps.zip (enc k)).foldl (fun t (p, v) => t.setIfInBounds p v) a.tmps, defers := [] } W)
    (hbody : ∀ (l k : Nat) (W : World), I k W → body.wpIn (Fence.wide.inRound l) (n - 1 - 1) P (postK Bn I Ix k W) (a₁ k) W)
    (hstop : ∀ (c : Code) (W : World), Ix c W → W.heap[w.heap.size]? = some (.deferred (some [])) → c.wpIn Fence.wide n P Q { a with defers := { target := .collected w.heap.size, args := #[] } :: a.defers } W) :
    (Code.rangeFunc g ps assign body).wpIn Fence.wide n P Q a w := by
  have bel : ∀ (W : World) (o' : Obj), (W.putObj (w.heap.size + 1) o').heap[Bn]? = W.heap[Bn]? := fun W o' => World.putObj_heap_other (by omega)
  refine wpIn_rangeFunc ?_
  intro fn hfn
  let rec_ : LoopState → Option Code → Loop := fun st pe => { state := st, pending := pe, fn, tmps := a.tmps, params := ps, assign, body, defers := w.heap.size }
  obtain ⟨W1, hW1⟩ : ∃ W1, (w.alloc (.deferred (some []))).alloc (.loop (rec_ .ready none)) = W1 := ⟨_, rfl⟩
  have hL1 : W1.heap[w.heap.size + 1]? = some (.loop (rec_ .ready none)) := by
    rw [← hW1]; have := World.alloc_heap_new (w.alloc (.deferred (some []))) (.loop (rec_ .ready none)); rwa [World.size_alloc] at this
  have hK1 : W1.heap[w.heap.size]? = some (.deferred (some [])) := by
    rw [← hW1]; exact (Below.heap_alloc _ _ _ (by simp)).trans (World.alloc_heap_new w _)
  have hI1 : I 0 W1 := by rw [← hW1]; exact hI.alloc _ (hI.alloc _ h0)
  have hb1 : Below w.heap.size w W1 := by
    rw [← hW1]; exact ((Below.refl _ w).alloc (Nat.le_refl _) _).alloc (by simp) _
  refine ⟨w.heap.size + 1, [{ target := .collected w.heap.size, args := #[] }], W1, { target := .fn (.func gf) lb, args := #[.func (.yield (w.heap.size + 1)) #[] #[]] }, W1, gf,
    #[.func (.yield (w.heap.size + 1)) #[] #[]] ++ lb, W1, ?_, ?_, fun _ _ => trivial, ?_, fun h => by simp [Fence.wide] at h, ?_⟩
  · rw [← hW1]; exact run_enterLoop_outer _ _ _ _ _
  · simp only [resolve, hg]
    simp [go_sem]
  · simp [invoke, go_sem, eg]
  refine (hseq (w.heap.size + 1) N (fun k W => I k W ∧ W.heap[w.heap.size + 1]? = some (.loop (rec_ .ready none)) ∧ W.heap[w.heap.size]? = some (.deferred (some [])))
    (fun W => ∃ c, Ix c W ∧ W.heap[w.heap.size + 1]? = some (.loop (rec_ .done (some c))) ∧ W.heap[w.heap.size]? = some (.deferred (some [])))
    W1 hNB hb1 (fun k W h => hN k W h.1) ?_ ⟨hI1, hL1, hK1⟩).mono ?_
  · rintro k W ⟨hi, hl, hk⟩
    have hlt : w.heap.size + 1 < W.heap.size := (Array.getElem?_eq_some_iff.1 hl).1
    refine ⟨fn, _, assign, body, run_yield (P := P) (args := enc k) hl (hps k), roundIn_of_wpIn hfn (hassign _ k W _ ⟨_, run_beginRound hl rfl, ?_⟩)⟩
    have hl2 : (W.putObj (w.heap.size + 1) (.loop { rec_ .ready none with state := .busy })).heap[w.heap.size + 1]? = some (.loop { rec_ .ready none with state := .busy }) := World.putObj_heap_same hlt
    have hk2 : (W.putObj (w.heap.size + 1) (.loop { rec_ .ready none with state := .busy })).heap[w.heap.size]? = some (.deferred (some [])) := (World.putObj_heap_other (by omega)).trans hk
    refine wpIn_mono (hbody _ k _ (hI.putObj _ hi (by omega) hl rfl)) ?_
    have fin : ∀ (jump : Option Code) (W3 : World), KeepsOthers (W.putObj (w.heap.size + 1) (.loop { rec_ .ready none with state := .busy })) W3 →
        (Instr.endRound (w.heap.size + 1) jump).run P W3 = .ok (.bool jump.isNone) (W3.putObj (w.heap.size + 1) (.loop (rec_ (if jump.isNone then .ready else .done) jump))) ∧
        W3.heap[w.heap.size + 1]? = some (.loop { rec_ .ready none with state := .busy }) ∧
        (W3.putObj (w.heap.size + 1) (.loop (rec_ (if jump.isNone then .ready else .done) jump))).heap[w.heap.size + 1]? = some (.loop (rec_ (if jump.isNone then .ready else .done) jump)) ∧
        (W3.putObj (w.heap.size + 1) (.loop (rec_ (if jump.isNone then .ready else .done) jump))).heap[w.heap.size]? = some (.deferred (some [])) := fun jump W3 hk3 => by
      have hl3 := hk3.same _ _ hl2 rfl
      exact ⟨run_endRound (P := P) jump hl3, hl3, World.putObj_heap_same (Array.getElem?_eq_some_iff.1 hl3).1, (World.putObj_heap_other (by omega)).trans (hk3.same _ _ hk2 rfl)⟩
    rintro e a3 W3 hp
    cases e with
    | normal =>
      obtain ⟨hk3, hkp3, hi3⟩ := hp
      obtain ⟨hr, hl3, hl4, hk4⟩ := fin none W3 hk3
      exact ⟨_, _, hr, .inl ⟨rfl, ⟨hI.putObj _ hi3 (by omega) hl3 rfl, hl4, hk4⟩, (bel _ _).trans (hkp3.trans (bel _ _))⟩⟩
    | ret =>
      obtain ⟨hk3, hi3⟩ := hp
      obtain ⟨hr, hl3, hl4, hk4⟩ := fin (some .ret) W3 hk3
      exact ⟨_, _, hr, .inr ⟨rfl, .ret, hIx.putObj _ hi3 (by omega) hl3 rfl, hl4, hk4⟩⟩
    | exit id =>
      obtain ⟨hk3, hi3⟩ := hp
      obtain ⟨hr, hl3, hl4, hk4⟩ := fin (some (.exit id)) W3 hk3
      exact ⟨_, _, hr, .inr ⟨rfl, .exit id, hIx.putObj _ hi3 (by omega) hl3 rfl, hl4, hk4⟩⟩
    | goto t => exact hp.elim
    | panic ch => exact hp.elim
    | outgrown => exact hp.elim
  · rintro e W2 ⟨⟨v, rfl⟩, c, hi, hl, hk⟩
    exact ⟨some c, _, run_endLoop (P := P) hl (by simp [rec_]), hstop c _ (hIx.putObj _ hi (by omega) hl rfl) ((World.putObj_heap_other (by omega)).trans hk)⟩
end Go.Proofs.Ytlmbffnmjfbglab
/- starts, first and Meet. -/
namespace Go.Proofs.Ytlmbffnmjfbglab
open Go.ChangeShapes Go.WideShapes Go.ChangeAt Go.RowKit

/-- the k-th opening of a slot. -/
def Slot.tk (s : Slot) (k : Nat) : Int := s.off + k * s.per
theorem tk_zero (s : Slot) : s.tk 0 = s.off := by simp [Slot.tk]
theorem tk_succ (s : Slot) (k : Nat) : s.tk (k + 1) = s.tk k + s.per := by
  simp only [Slot.tk, Int.natCast_add, Int.add_mul]; omega
theorem tk_bd {s : Slot} (h : s.ok) (k : Nat) (hk : k ≤ 10000000) : 0 ≤ s.tk k ∧ s.tk k ≤ 20000002000 := by
  obtain ⟨h1, h2, h3, h4, h5, h6⟩ := h
  have hp : (k : Int) * s.per ≤ 10000000 * 2000 := Int.mul_le_mul (by omega) h2 (by omega) (by omega)
  have h0 : 0 ≤ (k : Int) * s.per := Int.mul_nonneg (by omega) (by omega)
  unfold Slot.tk
  omega
theorem tk_inv {s : Slot} (h : s.ok) (k : Nat) : ((s.tk k - s.off) / s.per).toNat = k := by
  have h1 := h.1
  have e : s.tk k - s.off = k * s.per := by unfold Slot.tk; omega
  rw [e, Int.mul_ediv_cancel _ (by omega), Int.toNat_natCast]

attribute [local go_sem] Oper.semAt_some

set_option maxRecDepth 100000 in
set_option maxHeartbeats 1000000 in
theorem starts1_seq (s : Slot) (hs : s.ok) (m Bn : Nat) (w : World) (hw : Bn < w.heap.size) (hc : Blk w Bn 77 #[.int .i64 s.off, .int .i64 s.per, .int .i64 s.len]) :
    SeqK Try.prog m 92 #[.pointer (some ⟨Bn, 0, none⟩)] (fun k => #[.int .i64 (s.tk k)]) Bn w := by
  intro l N J Jx W hNB hW hJN hY h0
  have hcW := hc.below hW hw
  have c0 : W.cell? ⟨Bn, 0, none⟩ = some (.int .i64 s.off) := hcW.cell 0
  refine callsIn_of_wp Try.func92 rfl trivial ?_ rfl
  simp only [Try.ntmps92, List.size_toArray, List.length_cons, List.length_nil, Nat.reduceAdd, Nat.reduceSub, Array.replicate_succ, Array.replicate_zero, List.push_toArray, List.append_toArray, List.nil_append, List.cons_append]
  gi_wp2
  gi_loopw [3] (fun t wr => ∃ k : Nat, t = .int .i64 (s.tk k) ∧ J k wr ∧ Blk wr Bn 77 #[.int .i64 s.off, .int .i64 s.per, .int .i64 s.len])
    (fun t wr => N - ((intOf t - s.off) / s.per).toNat)
  case atStart => exact ⟨0, by rw [tk_zero], h0, hcW⟩
  case round =>
    clear c0 hcW hc h0
    obtain ⟨k, rfl, hJ, hcr⟩ := hrel
    have hk := hJN k wr hJ
    obtain ⟨fn, tmps, assign, body, hy, hR⟩ := hY k wr hJ
    have hmu := tk_inv hs k
    have hmu1 := tk_inv hs (k + 1)
    have hsucc := tk_succ s k
    obtain ⟨b0, b1⟩ := tk_bd hs k (by omega)
    have hp1 := hs.1
    have hp2 := hs.2.1
    have Hmu := Lib.hid hmu
    have Hmu1 := Lib.hid hmu1
    have Hs := Lib.hid hsucc
    clear hmu hmu1 hsucc hJN hY
    generalize s.tk k = T at *
    gi_wp2
    refine ⟨fun h => by simp [Fence.wide] at h, hR.mono ?_⟩
    rintro e W3 (⟨rfl, hJ3, hk3⟩ | ⟨rfl, hJx3⟩)
    · have hc3 : Blk W3 Bn 77 #[.int .i64 s.off, .int .i64 s.per, .int .i64 s.len] := hk3.trans hcr
      have c1 : W3.cell? ⟨Bn, 1, none⟩ = some (.int .i64 s.per) := hc3.cell 1
      gi_wp2
      go_roundw
      case rel => exact ⟨k + 1, by rw [Hs.out], hJ3, hc3⟩
      case measure => simp only [intOf]; rw [← Hs.out, Hmu1.out, Hmu.out]; omega
    · gi_wp2
      go_end0
      exact ⟨⟨_, rfl⟩, hJx3⟩

theorem starts_c (s : Slot) (w : World) :
    Calls Try.prog 78 #[.agg #[.int .i64 s.off, .int .i64 s.per, .int .i64 s.len]] w fun e w' => e = .returned (.func (.func 92) #[] #[.pointer (some ⟨w.heap.size, 0, none⟩)]) ∧ w.alloc (.cells #[.int .i64 s.off, .int .i64 s.per, .int .i64 s.len] 77) = w' := by
  go_enter Try.func78, Try.ntmps78
  go_wp2
  go_ret
  exact ⟨rfl, rfl⟩

def firstS (s : Slot) (t : Int) : Int := if t < s.off then s.off else if s.len ≤ (t - s.off) % s.per then t - (t - s.off) % s.per + s.per else t

end Go.Proofs.Ytlmbffnmjfbglab
/- Meet. -/
namespace Go.Proofs.Ytlmbffnmjfbglab
open Go.ChangeShapes Go.WideShapes Go.ChangeAt Go.RowKit

attribute [local go_sem] Oper.semAt_some

theorem wide_call {P : Program} {f n : Nat} {args : Array Value} {w : World} {R R' : Ending → World → Prop} (h : Calls P f args w R) (hm : ∀ e w', R e w' → R' e w') : Fence.wide.fn f ∧ CallsIn Fence.wide n P f args w R' :=
  ⟨trivial, (callsIn_wide.2 h).mono hm⟩
theorem round_call {P : Program} {f n l : Nat} {args : Array Value} {w : World} {R R' : Ending → World → Prop} (h : Calls P f args w R) (hm : ∀ e w', R e w' → R' e w') : (Fence.wide.inRound l).fn f ∧ CallsIn (Fence.wide.inRound l) n P f args w R' :=
  ⟨trivial, CallsIn.inRound l ((callsIn_wide.2 h).mono hm)⟩
theorem ownFrom_blk {β : Type} (B g : Nat) (t : TypeId) (cs : Array Value) : OwnFrom B (fun (_ : β) W => Blk W g t cs) := fun _ X _ _ hs hg hr =>
  (hg.block g hs.lt (fun e => by obtain ⟨_, o, ho, hc⟩ := hr g e.symm; rw [show X.heap[g]? = _ from hs] at ho; cases ho; cases hc)).trans hs
theorem keeps_below {W W' : World} (h : Below W.heap.size W W') : KeepsOthers W W' :=
  ⟨h.size, fun k _ hk _ => (h.block k (Array.getElem?_eq_some_iff.1 hk).1).trans hk⟩

/-- the k-th opening of a meets an opening of b. -/
def hitB (a b : Slot) (k : Nat) : Bool := decide (firstS b (a.tk k) < a.tk k + a.len)

/-- what Meet's loop keeps. -/
structure MI (w : World) (a b : Slot) (W : World) : Prop where
  ba : Blk W w.heap.size 46 #[.int .i64 a.off, .int .i64 a.per, .int .i64 a.len]
  bb : Blk W (w.heap.size + 1) 46 #[.int .i64 b.off, .int .i64 b.per, .int .i64 b.len]
  r1 : Blk W (w.heap.size + 2) 3 #[.int .i64 0]
  r2 : Blk W (w.heap.size + 3) 4 #[.bool false]
  hb : Below w.heap.size w W
theorem MI.next {w : World} {a b : Slot} {W W' : World} (h : MI w a b W) (hb : Below W.heap.size W W') : MI w a b W' :=
  ⟨h.ba.below hb h.ba.lt, h.bb.below hb h.bb.lt, h.r1.below hb h.r1.lt, h.r2.below hb h.r2.lt, h.hb.trans (hb.mono h.hb.size)⟩
theorem MI.own {β : Type} {w : World} {a b : Slot} {B : Nat} (hB : w.heap.size ≤ B) : OwnFrom B (fun (_ : β) W => MI w a b W) := fun s X Y row hs hg hr =>
  ⟨ownFrom_blk (β := β) B _ _ _ s X Y row hs.ba hg hr, ownFrom_blk (β := β) B _ _ _ s X Y row hs.bb hg hr, ownFrom_blk (β := β) B _ _ _ s X Y row hs.r1 hg hr, ownFrom_blk (β := β) B _ _ _ s X Y row hs.r2 hg hr,
   ownFrom_below (Nat.le_refl _) hB s X Y row hs.hb hg hr⟩
/-- what it leaves. -/
structure MX (w : World) (T : Int) (W : World) : Prop where
  r1 : Blk W (w.heap.size + 2) 3 #[.int .i64 T]
  r2 : Blk W (w.heap.size + 3) 4 #[.bool true]
  hb : Below w.heap.size w W
theorem MX.own {β : Type} {w : World} {T : Int} {B : Nat} (hB : w.heap.size ≤ B) : OwnFrom B (fun (_ : β) W => MX w T W) := fun s X Y row hs hg hr =>
  ⟨ownFrom_blk (β := β) B _ _ _ s X Y row hs.r1 hg hr, ownFrom_blk (β := β) B _ _ _ s X Y row hs.r2 hg hr, ownFrom_below (Nat.le_refl _) hB s X Y row hs.hb hg hr⟩

theorem mi_start (w : World) (a b : Slot) : MI w a b ((((w.alloc (.cells #[.int .i64 a.off, .int .i64 a.per, .int .i64 a.len] 46)).alloc (.cells #[.int .i64 b.off, .int .i64 b.per, .int .i64 b.len] 46)).alloc (.cells #[.int .i64 0] 3)).alloc (.cells #[.bool false] 4)) := by
  have b0 := (((Blk.new w 46 #[.int .i64 a.off, .int .i64 a.per, .int .i64 a.len]).alloc (.cells #[.int .i64 b.off, .int .i64 b.per, .int .i64 b.len] 46)).alloc (.cells #[.int .i64 0] 3)).alloc (.cells #[.bool false] 4)
  have b1 := ((Blk.new (w.alloc (.cells #[.int .i64 a.off, .int .i64 a.per, .int .i64 a.len] 46)) 46 #[.int .i64 b.off, .int .i64 b.per, .int .i64 b.len]).alloc (.cells #[.int .i64 0] 3)).alloc (.cells #[.bool false] 4)
  have b2 := (Blk.new ((w.alloc (.cells #[.int .i64 a.off, .int .i64 a.per, .int .i64 a.len] 46)).alloc (.cells #[.int .i64 b.off, .int .i64 b.per, .int .i64 b.len] 46)) 3 #[.int .i64 0]).alloc (.cells #[.bool false] 4)
  have b3 := Blk.new (((w.alloc (.cells #[.int .i64 a.off, .int .i64 a.per, .int .i64 a.len] 46)).alloc (.cells #[.int .i64 b.off, .int .i64 b.per, .int .i64 b.len] 46)).alloc (.cells #[.int .i64 0] 3)) 4 #[.bool false]
  simp only [World.size_alloc] at b1 b2 b3
  exact ⟨b0, b1, b2, b3, (((((Below.refl _ w).alloc (Nat.le_refl _) _).alloc (by simp) _).alloc (by simp; omega) _).alloc (by simp; omega) _)⟩

end Go.Proofs.Ytlmbffnmjfbglab
/- The windows of slots, in plain numbers. -/
namespace Go.Proofs.Ytlmbffnmjfbglab

def cntS (F : Int) (s : Slot) : Nat := (F / s.per).toNat
def winsS (i : Nat) (s : Slot) (j : Nat) : List Win := (List.range j).map fun k => ⟨i, s.tk k, s.len⟩
theorem winsS_succ (i : Nat) (s : Slot) (j : Nat) : winsS i s (j + 1) = winsS i s j ++ [⟨i, s.tk j, s.len⟩] := by simp [winsS, List.range_succ]
theorem winsS_len (i : Nat) (s : Slot) (j : Nat) : (winsS i s j).length = j := by simp [winsS]
def winsTo (F : Int) (sl : List Slot) (k : Nat) : List Win := (List.range k).flatMap fun i => winsS i (sl.getD i default) (cntS F (sl.getD i default))
theorem winsTo_zero (F : Int) (sl : List Slot) : winsTo F sl 0 = [] := rfl
theorem winsTo_succ (F : Int) (sl : List Slot) (k : Nat) (h : k < sl.length) : winsTo F sl (k + 1) = winsTo F sl k ++ winsS k sl[k] (cntS F sl[k]) := by
  simp [winsTo, List.range_succ, h]
def winsOf (F : Int) (sl : List Slot) : List Win := winsTo F sl sl.length

theorem cnt_bd {F : Int} {s : Slot} (h : s.ok) (hF : F ≤ 2000) : cntS F s ≤ 2000 := by
  have h1 := h.1
  unfold cntS
  rcases Int.lt_or_le F 0 with c | c
  · have : F / s.per ≤ 0 := by
      have := Int.ediv_le_ediv (c := s.per) (by omega) (show F ≤ 0 by omega)
      simpa using this
    omega
  · have := Int.ediv_le_self s.per c
    omega
theorem winsTo_len {F : Int} {sl : List Slot} (hs : ∀ s ∈ sl, s.ok) (hF : F ≤ 2000) (k : Nat) (hk : k ≤ sl.length) : (winsTo F sl k).length ≤ 2000 * k := by
  induction k with
  | zero => simp [winsTo_zero]
  | succ k ih =>
    rw [winsTo_succ F sl k (by omega), List.length_append, winsS_len]
    have := ih (by omega)
    have := cnt_bd (hs sl[k] (List.getElem_mem _)) hF
    omega
theorem tk_lt_iff {F : Int} {s : Slot} (h : s.ok) (hF : 1 ≤ F) (hd : F % s.per = 0) (j : Nat) : s.tk j < F ↔ j < cntS F s := by
  obtain ⟨h1, h2, h3, h4, h5, h6⟩ := h
  have e := Int.mul_ediv_add_emod F s.per
  rw [hd] at e
  have hq : 0 ≤ F / s.per := Int.ediv_nonneg (by omega) (by omega)
  obtain ⟨c, hc⟩ := Int.eq_ofNat_of_zero_le hq
  unfold cntS
  rw [hc, Int.toNat_natCast]
  rw [hc] at e
  unfold Slot.tk
  constructor
  · intro hlt
    rcases Nat.lt_or_ge j c with g | g
    · exact g
    · have : s.per * (c : Int) ≤ s.per * j := Int.mul_le_mul_of_nonneg_left (by omega) (by omega)
      rw [Int.mul_comm s.per (j : Int)] at this
      omega
  · intro hlt
    have : s.per * ((j : Int) + 1) ≤ s.per * c := Int.mul_le_mul_of_nonneg_left (by omega) (by omega)
    rw [Int.mul_add, Int.mul_comm s.per (j : Int)] at this
    omega

/-- what a table is, of slots that do not clash. -/
structure TableOk (F : Int) (sl : List Slot) (l : List Win) : Prop where
  perm : l.Perm (winsOf F sl)
  sorted : ∀ i j (_ : i < j) (hj : j < l.length), l[i].start ≤ l[j].start
def NoClash (sl : List Slot) : Prop := ∀ i k (h : k < i) (hi : i < sl.length), apartB sl[k] sl[i] = true
/-- what Table returns. -/
def TableV (F : Int) (ps : List Part) (os : List Int) (q : List Win × Int) : Prop :=
  ((slotsV F ps os).2 ≠ 0 ∧ q = ([], (slotsV F ps os).2)) ∨
  ((slotsV F ps os).2 = 0 ∧ ¬ NoClash (slotsV F ps os).1 ∧ q = ([], 120)) ∨
  ((slotsV F ps os).2 = 0 ∧ NoClash (slotsV F ps os).1 ∧ q.2 = 0 ∧ TableOk F (slotsV F ps os).1 q.1)

/-- what is known of slots that Slots has returned. -/
structure SlotsOk (F : Int) (ps : List Part) (os : List Int) (sl : List Slot) : Prop where
  frame : 1 ≤ F ∧ F ≤ 2000
  len : sl.length = ps.length
  olen : os.length = ps.length
  few : sl.length ≤ 6
  ok : ∀ s ∈ sl, s.ok
  div : ∀ s ∈ sl, F % s.per = 0
  zip : sl = zipS os ps
theorem slotsV_ok {F : Int} {ps : List Part} {os : List Int} (h : (slotsV F ps os).2 = 0) : SlotsOk F ps os (slotsV F ps os).1 := by
  unfold slotsV at h ⊢
  by_cases h1 : (timesV F ps && decide (os.length = ps.length)) = true
  · rw [if_pos h1] at h ⊢
    by_cases h2 : (zipS os ps).any (fun s => !validS s) = true
    · rw [if_pos h2] at h; simp at h
    · rw [if_neg h2]
      simp only [Bool.and_eq_true, decide_eq_true_iff, timesV, Bool.not_eq_true'] at h1
      obtain ⟨⟨a1, a2, a3, a4⟩, a5⟩ := h1
      have hl := zipS_len os ps a5
      refine ⟨⟨a1, a2⟩, hl, a5, by simp only [hl]; exact a3, fun s hs => ?_, fun s hs => ?_, rfl⟩
      · simp only [List.any_eq_true, not_exists, not_and, Bool.not_eq_true', Bool.not_eq_false] at h2
        exact ok_of (h2 s hs)
      · obtain ⟨k, hk, rfl⟩ := List.getElem_of_mem hs
        change k < (zipS os ps).length at hk
        change F % ((zipS os ps)[k]).per = 0
        rw [zipS_get os ps k hk (by omega) (by omega)]
        rw [List.any_eq_false] at a4
        have := a4 ps[k] (List.getElem_mem _)
        simp only [timeBad, Bool.or_eq_true, decide_eq_true_iff, not_or, Decidable.not_not] at this
        exact this.2.1
  · rw [if_neg h1] at h; simp at h
end Go.Proofs.Ytlmbffnmjfbglab
/- The contract of Module (the statements' own maker of modules). -/
namespace Go.Proofs.Ytlmbffnmjfbglab
open Go.ChangeShapes Go.WideShapes Go.ChangeAt Go.RowKit

theorem info53 : (Try.prog.info? 56).map (fun i => (i.zero, i.size, i.bytes)) = some (some (.agg #[.string ⟨#[]⟩, .int .i64 0, .int .i64 0, .int .i64 0, .slice none 0 0, .int .i64 0, .int .i64 0, .slice none 0 0, .slice none 0 0, .slice none 0 0]), 10, 152) := by kernel_rfl
def mkPart (p l : Int) : Part := { name := ⟨#[]⟩, period := p, length := l, mem := 0, semas := ⟨none, 0, 0⟩, events := 0, boards := 0, bufs := ⟨none, 0, 0⟩, ports := ⟨none, 0, 0⟩, procs := ⟨none, 0, 0⟩ }
def pairs : List Int → List Part
  | a :: b :: r => mkPart a b :: pairs r
  | _ => []
theorem pairs_len : ∀ ts : List Int, (pairs ts).length = ts.length / 2
  | [] => rfl
  | [_] => by simp [pairs]
  | a :: b :: r => by simp only [pairs, List.length_cons, pairs_len r]; omega
theorem pairs_get : ∀ (ts : List Int) (k : Nat) (h : k < (pairs ts).length) (h1 : 2 * k < ts.length) (h2 : 2 * k + 1 < ts.length), (pairs ts)[k] = mkPart ts[2 * k] ts[2 * k + 1]
  | [], k, h, _, _ => absurd h (by simp [pairs])
  | [_], k, h, _, _ => absurd h (by simp [pairs])
  | a :: b :: r, 0, _, _, _ => rfl
  | a :: b :: r, k + 1, h, h1, h2 => by
    have := pairs_get r k (by simpa [pairs] using h) (by simp at h1; omega) (by simp at h2; omega)
    simp only [pairs, List.getElem_cons_succ, this]
    have e1 : 2 * (k + 1) = 2 * k + 1 + 1 := by omega
    simp only [e1, List.getElem_cons_succ]
theorem cells10_length (l : List Part) : (l.flatMap Part.cells).length = l.length * 10 := by
  induction l with
  | nil => rfl
  | cons r l ih => simp [Part.cells, ih]; omega
theorem cells10_get : ∀ (l : List Part) (i : Nat) (h : i < l.length) (j : Nat) (v : Value), l[i].cells[j]? = some v → (l.flatMap Part.cells)[i * 10 + j]? = some v
  | r :: l, 0, _, j, v, hv => by
    have hj : j < r.cells.length := (List.getElem?_eq_some_iff.1 hv).1
    simp only [List.flatMap_cons]
    rw [Nat.zero_mul, Nat.zero_add, List.getElem?_append_left hj]; exact hv
  | r :: l, i + 1, h, j, v, hv => by
    have ih := cells10_get l i (by simpa using h) j v hv
    have e : ∀ j, (List.flatMap Part.cells (r :: l))[j + 10]? = (List.flatMap Part.cells l)[j]? := fun j => by
      simp only [List.flatMap_cons]
      rw [List.getElem?_append_right (by simp [Part.cells])]
      simp [Part.cells]
    rw [show (i + 1) * 10 + j = i * 10 + j + 10 from by omega, e]
    exact ih
theorem RdPart.of_own {w : World} {base : Nat} {v : Value} {n : Nat} {l : List Part} (hn : n = l.length) (h : w.ownsRow base 56 10 v n (l.flatMap Part.cells)) : ∃ A c, v = .slice A n c ∧ RdPart w w.heap.size A l := by
  subst hn
  rcases h.2 with ⟨rfl, h0⟩ | ⟨g, cap, cur, rfl, _, hh, _⟩
  · exact ⟨none, 0, by rw [h0], fun h => by omega⟩
  · refine ⟨_, cap, rfl, fun _ => ⟨g, 0, rfl, Blk.lt (t := 56) hh, fun i hi j v hv => ?_⟩⟩
    have hc := h.cells (g := g) rfl
    have e : ∀ j, (⟨g, 0, none⟩ : Addr).add j = ⟨g, 0 + j, none⟩ := fun j => by unfold Addr.add; split <;> simp_all
    have a0 := hc _ _ (cells10_get l i hi j v hv)
    rw [e, ← Nat.add_assoc] at a0
    exact a0


/-- a module that the statements made. -/
def RetMod (w : World) (frame : Int) (ps : List Part) (e : Ending) (w' : World) : Prop := ∃ A c, e = .returned (.agg #[.string ⟨#[]⟩, .int .i64 0, .int .i64 frame, .slice A ps.length c]) ∧ RdPart w' w'.heap.size A ps ∧ Below w.heap.size w w'

set_option maxRecDepth 100000 in
set_option maxHeartbeats 2000000 in
theorem module_c (frame : Int) (ss : List Int) (A : Option Addr) (c : Nat) (w : World) (h : RdInt w w.heap.size A ss) (hl : ss.length ≤ 1000) :
    Calls Try.prog 25 #[.int .i64 frame, .slice A ss.length c] w (RetMod w frame (pairs ss)) := by
  obtain ⟨i0, hi0, hz0, hz1, hz2⟩ := info_parts info53
  have hBa : Below w.heap.size w ((w.alloc (.cells #[.string ⟨#[]⟩, .int .i64 0, .int .i64 0, .slice none 0 0] 24)).alloc (.cells #[.string ⟨#[]⟩, .int .i64 0, .int .i64 frame, .slice none 0 0] 24)) := ((Below.refl _ w).alloc (Nat.le_refl _) _).alloc (by simp) _
  have hb1 := Blk.new (w.alloc (.cells #[.string ⟨#[]⟩, .int .i64 0, .int .i64 0, .slice none 0 0] 24)) 24 #[.string ⟨#[]⟩, .int .i64 0, .int .i64 frame, .slice none 0 0]
  have hb0 := (Blk.new w 24 #[.string ⟨#[]⟩, .int .i64 0, .int .i64 0, .slice none 0 0]).alloc (.cells #[.string ⟨#[]⟩, .int .i64 0, .int .i64 frame, .slice none 0 0] 24)
  simp only [World.size_alloc] at hb1
  go_enter Try.func25, Try.ntmps25
  go_wp2
  refine nameW fun W0 hW0 => ?_
  rw [← hW0] at hBa hb1 hb0
  have hz : W0.heap.size = w.heap.size + 2 := by subst hW0; simp
  clear hW0
  have hz2' : w.heap.size + 2 ≤ W0.heap.size := by omega
  clear hz
  have hpl := Lib.hid (pairs_len ss)
  go_loopw [6] (fun i wr => ∃ k : Nat, k ≤ ss.length / 2 ∧ i = .int .i64 (2 * k : Nat) ∧ Below w.heap.size w wr ∧ w.heap.size + 2 ≤ wr.heap.size ∧ Blk wr w.heap.size 24 #[.string ⟨#[]⟩, .int .i64 0, .int .i64 0, .slice none 0 0] ∧
    ∃ v, Blk wr (w.heap.size + 1) 24 #[.string ⟨#[]⟩, .int .i64 0, .int .i64 frame, v] ∧ wr.ownsRow (w.heap.size + 2) 56 10 v k (((pairs ss).take k).flatMap Part.cells)) (fun i _ => ss.length - (intOf i).toNat)
  case atStart => exact ⟨0, Nat.zero_le _, rfl, hBa, hz2', hb0, _, hb1, World.ownsRow_nil _ _ _ _⟩
  case round =>
    obtain ⟨k, hk, rfl, hB, hzr, hb0, v, hb1, hown⟩ := hrel
    have hex : ∃ A' c', v = .slice A' k c' := by
      rcases hown.2 with ⟨rfl, rfl⟩ | ⟨g, cap, cur, rfl, _⟩
      · exact ⟨none, 0, rfl⟩
      · exact ⟨_, _, rfl⟩
    obtain ⟨A', c', rfl⟩ := hex
    by_cases hlt : 2 * k + 1 < ss.length
    · obtain ⟨b, o, rfl, hb, hc⟩ := h.keep hB (by omega)
      have c0 := hc (2 * k) (by omega)
      have c1 := hc (2 * k + 1) hlt
      clear hc h
      have q3 := hb1.cell 3
      have f3 := hb1.frozen 3
      simp at q3
      have htk : Hid (((pairs ss).take (k + 1)).flatMap Part.cells = ((pairs ss).take k).flatMap Part.cells ++ [.string ⟨#[]⟩, .int .i64 ss[2 * k], .int .i64 ss[2 * k + 1], .int .i64 0, .slice none 0 0, .int .i64 0, .int .i64 0, .slice none 0 0, .slice none 0 0, .slice none 0 0]) := by
        have hkz : k < (pairs ss).length := by rw [pairs_len]; omega
        rw [List.take_succ_eq_append_getElem hkz, List.flatMap_append, pairs_get ss k hkz (by omega) hlt]; rfl
      generalize ss[2 * k] = s at c0 htk
      generalize ss[2 * k + 1] = s' at c1 htk
      obtain ⟨j, hj⟩ : ∃ j, j = 2 * k := ⟨_, rfl⟩
      rw [← hj] at c0 c1 hlt ⊢
      have Hj := Lib.hid hj
      have hi0' : (0 : Int) ≤ (j : Int) := by omega
      have hi1 : (j : Int) < (ss.length : Int) := by omega
      have hi2 : (j : Int) + 1 < (ss.length : Int) := by omega
      have hi3 : (0 : Int) ≤ (j : Int) + 1 := by omega
      have hkn : k ≤ 500 := by omega
      have hk1 : k + 1 ≤ ss.length / 2 := by omega
      have m1 : IntKind.i64.wrap ((j : Int) + 1) = (j : Int) + 1 := IntWalk.i64_in _ (by omega)
      have m2 : ((j : Int) + 1).toNat = j + 1 := by omega
      clear hj
      have hne1 : some (w.heap.size + 1) ≠ (Value.slice A' k c').ownBlock := fun e => by have := hown.lt _ e.symm; omega
      have hne0 : some w.heap.size ≠ (Value.slice A' k c').ownBlock := fun e => by have := hown.lt _ e.symm; omega
      have hnew : ∀ g, (Value.slice A' k c').ownBlock = some g → w.heap.size ≤ g := fun g hg => by have := hown.lt g hg; omega
      have Hne1 := Lib.hid hne1
      have Hne0 := Lib.hid hne0
      have Hnew := Lib.hid hnew
      clear hne1 hne0 hnew
      have q3a : ∀ o, (wr.alloc o).cell? ⟨w.heap.size + 1, 3, none⟩ = some (.slice A' k c') := fun o => by rw [World.cell?_alloc_lt _ _ _ (by simp; omega)]; exact q3
      have c0a : ∀ o', (wr.alloc o').cell? ⟨b, o + j, none⟩ = some (.int .i64 s) := fun o' => by rw [World.cell?_alloc_lt _ _ _ (by simp; have := hB.size; omega)]; exact c0
      have c1a : ∀ o', (wr.alloc o').cell? ⟨b, o + (j + 1), none⟩ = some (.int .i64 s') := fun o' => by rw [World.cell?_alloc_lt _ _ _ (by simp; have := hB.size; omega)]; exact c1
      go_wp2
      go_region_law (refine step_append_lies _ rfl (.tmp 17) (.tmp 28) 22 rfl (w.heap.size + 2) 56 i0 _ 10 152 Try.underlying22 hi0 hz0 hz1 hz2 rfl (by decide) (.slice A' k c') k _ (by simp [Act.eval]) ((hown.alloc _).drew) ⟨wr.heap.size, 0, none⟩ 1 1 [.string ⟨#[]⟩, .int .i64 s, .int .i64 s', .int .i64 0, .slice none 0 0, .int .i64 0, .int .i64 0, .slice none 0 0, .slice none 0 0, .slice none 0 0] (by simp [Act.eval]) rfl (World.news_of_block (cs := #[.string ⟨#[]⟩, .int .i64 s, .int .i64 s', .int .i64 0, .slice none 0 0, .int .i64 0, .int .i64 0, .slice none 0 0, .slice none 0 0, .slice none 0 0]) (t := 56) (fr := (0, 0)) (heap_alloc_new wr _)) (by simp [Value.oneCell']) (by omega) (by unfold maxLen; omega) (by omega) (by simp; omega) (wr.heap.size + 1) (by simp) ?_; intro g cap w2 hown2 hgrow hg hgl; have B1 := (Blk.drew (hb1.alloc _)).grown hgrow Hne1.out; have q1 := B1.cell 3; have f1 := B1.frozen 3; simp at q1)
      all_goals
        have B0 := (Blk.drew (hb0.alloc _)).grown hgrow Hne0.out
        have hB2 := (((hB.alloc (by omega) _).drew).grown hgrow (by simp; omega) Hnew.out)
        go_wp2
        go_roundw
        case rel =>
          refine ⟨k + 1, hk1, by rw [Hj.out]; go_num, hB2.setCell (by simp) _, by have := hgrow.size; simp at this ⊢; omega, B0.far (by simp) _, _, B1.set_ 3 _, ?_⟩
          rw [htk.out]
          exact ownsRow_setCell_below hown2 (by simp) _
        case measure => simp [intOf]; omega
    · obtain rfl : k = ss.length / 2 := by omega
      have hle : ss.length ≤ 2 * (ss.length / 2) + 1 := by omega
      have hj9 : 2 * (ss.length / 2) ≤ 1000 := by omega
      clear hlt hk
      rw [List.take_of_length_le (by rw [hpl.out]; exact Nat.le_refl _)] at hown
      have q0 := hb1.cell 0
      have q1 := hb1.cell 1
      have q2 := hb1.cell 2
      have q3 := hb1.cell 3
      have p0 := hb0.cell 0
      have p1 := hb0.cell 1
      have p2 := hb0.cell 2
      have p3 := hb0.cell 3
      have f0 := hb0.frozen 0
      have f1 := hb0.frozen 1
      have f2 := hb0.frozen 2
      have f3 := hb0.frozen 3
      simp at q0 q1 q2 q3 p0 p1 p2 p3
      generalize hk2 : ss.length / 2 = k at *
      generalize hj2 : 2 * k = j at *
      have Hk2 := Lib.hid hk2
      clear hk2 hj2
      go_wp2_with fail
      refine bodyPost_ret (v := .agg #[.string ⟨#[]⟩, .int .i64 0, .int .i64 frame, .slice A' k c']) ?_ rfl ⟨A', c', by rw [hpl.out], ?_, ?_⟩
      · simp [results, Try.results25, go_sem, p0, p1, p2, p3]
      · have hown4 := ownsRow_setCell_below (a := ⟨w.heap.size, 3, none⟩) (ownsRow_setCell_below (a := ⟨w.heap.size, 2, none⟩) (ownsRow_setCell_below (a := ⟨w.heap.size, 1, none⟩) (ownsRow_setCell_below (a := ⟨w.heap.size, 0, none⟩) hown (by simp) (.string ⟨#[]⟩)) (by simp) (.int .i64 0)) (by simp) (.int .i64 frame)) (by simp) (.slice A' k c')
        obtain ⟨A2, c2, hv, hrd⟩ := RdPart.of_own hpl.out.symm hown4
        injection hv with e1 e2 e3
        rw [← e1] at hrd; exact hrd
      · exact (((hB.setCell (by simp) _).setCell (by simp) _).setCell (by simp) _).setCell (by simp) _
end Go.Proofs.Ytlmbffnmjfbglab
