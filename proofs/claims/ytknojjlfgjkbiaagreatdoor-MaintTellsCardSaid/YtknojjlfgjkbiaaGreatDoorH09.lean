/- Texts E6 E7, joined. -/
import Derived.Test.YtknojjlfgjkbiaaGreatDoorH08
set_option linter.unusedSimpArgs false
set_option linter.unusedVariables false
set_option linter.unusedSectionVars false
/- A range over a map of reports, or of strings; the iterator over a map's keys. -/
namespace Go.Proofs.YtknojjlfgjkbiaaGreatDoor
open Go.ChangeShapes Go.WideShapes Go.ChangeAt Go.RowKit
attribute [local go_sem] Oper.semAt_some

theorem rng_done {κ : Type} [DecidableEq κ] {x : κ} {ks got : List κ} (hk : memB x ks = true) (h : false = (memB x ks && !memB x got)) : x ∈ got := by
  rw [hk] at h
  cases hg : memB x got
  · rw [hg] at h; cases h
  · exact memB_iff.1 hg
theorem rng_more {κ : Type} [DecidableEq κ] {x : κ} {ks got : List κ} (h : true = (memB x ks && !memB x got)) : x ∈ ks ∧ x ∉ got := by
  cases hk : memB x ks
  · rw [hk] at h; cases h
  · cases hg : memB x got
    · exact ⟨memB_iff.1 hk, fun hc => by rw [memB_iff.2 hc] at hg; cases hg⟩
    · rw [hk, hg] at h; cases h
theorem rng_step {κ : Type} [DecidableEq κ] {x z : κ} {ks got : List κ} {a b : Bool} (h : a = (memB z ks && !memB z got)) (hb : b = decide (z = x)) : (a && !b) = (memB z ks && !memB z (got ++ [x])) := by
  subst h hb
  rw [Bool.and_assoc]
  congr 1
  by_cases h1 : z ∈ got <;> by_cases h2 : z = x <;> simp [memB, h1, h2]
section
variable {κ : Type} [DecidableEq κ] {M : MKind κ}
/-- block r walks over the map b: got has been met. -/
def Rng (M : MKind κ) (w : World) (b r : Nat) (ks : List κ) (f : κ → Int) (got : List κ) (cnt : Nat) : Prop :=
  ∃ n D left, w.ranges Tryz.prog M.k (plainElem Tryz.prog 3) b r n D left cnt ∧ KeyD M ks f D ∧ (∀ x, M.good x → left (M.lit x) = (memB x ks && !memB x got)) ∧ got.Nodup ∧ ∀ x ∈ got, x ∈ ks
variable {w w' : World} {b r n : Nat} {ks got : List κ} {f : κ → Int} {cnt : Nat}
theorem Rng.left_eq (h : Rng M w b r ks f got cnt) : w.rangeLeft b r = cnt := let ⟨_, _, _, h, _⟩ := h; h.left_eq
theorem Rng.ne (h : Rng M w b r ks f got cnt) : r ≠ b := let ⟨_, _, _, h, _⟩ := h; h.ne
theorem Rng.lt (h : Rng M w b r ks f got cnt) : r < w.heap.size := let ⟨_, _, _, h, _⟩ := h; h.lt
theorem Rng.nodup (h : Rng M w b r ks f got cnt) : got.Nodup := let ⟨_, _, _, _, _, _, h, _⟩ := h; h
theorem Rng.sub (h : Rng M w b r ks f got cnt) : ∀ x ∈ got, x ∈ ks := let ⟨_, _, _, _, _, _, _, h⟩ := h; h
theorem Rng.kept {row : Option Nat} (h : Rng M w b r ks f got cnt) (hg : w.grownBy w' row) (hb : some b ≠ row) (hr : some r ≠ row) : Rng M w' b r ks f got cnt := let ⟨n, D, left, h1, h2⟩ := h; ⟨n, D, left, h1.kept hg hb hr, h2⟩
theorem Rng.alloc (h : Rng M w b r ks f got cnt) (o : Obj) : Rng M (w.alloc o) b r ks f got cnt := let ⟨n, D, left, h1, h2⟩ := h; ⟨n, D, left, h1.alloc o, h2⟩
theorem Rng.same (h : Rng M w b r ks f got cnt) (hb : w'.heap[b]? = w.heap[b]?) (hr : w'.heap[r]? = w.heap[r]?) : Rng M w' b r ks f got cnt := by
  obtain ⟨n, D, left, ⟨es, clock, since, seen, c0, h1, h2, h3, h4, h5, h6⟩, h7⟩ := h
  exact ⟨n, D, left, ⟨es, clock, since, seen, c0, hb.trans h1, h2, h3, h4, hr.trans h5, h6⟩, h7⟩
theorem Rng.obj (h : Rng M w b r ks f got cnt) : ∃ o, w.heap[r]? = some o ∧ o.isWalk = true := by
  obtain ⟨n, D, left, ⟨es, clock, since, seen, c0, h1, h2, h3, h4, h5, h6⟩, h7⟩ := h
  exact ⟨_, h5, rfl⟩
theorem Rng.objB (h : Rng M w b r ks f got cnt) : ∃ o, w.heap[b]? = some o ∧ o.isWalk = true := by
  obtain ⟨n, D, left, ⟨es, clock, since, seen, c0, h1, h2, h3, h4, h5, h6⟩, h7⟩ := h
  exact ⟨_, h1, rfl⟩
theorem Rng.keeps (h : Rng M w b r ks f got cnt) (hk : KeepsWalks w w') : Rng M w' b r ks f got cnt := by
  obtain ⟨o, ho, hw⟩ := h.obj
  obtain ⟨o2, ho2, hw2⟩ := h.objB
  exact h.same ((hk.same _ _ ho2 hw2).trans ho2.symm) ((hk.same _ _ ho hw).trans ho.symm)
/-- 'range m'. -/
theorem OnMap.range (h : OnMap M w b n ks f) : ∃ w' cnt, (Instr.range M.t (.map (some b))).run Tryz.prog w = .ok (.pointer (some ⟨w.heap.size, 0, none⟩)) w' ∧ Rng M w' b w.heap.size ks f [] cnt ∧ w.grownBy w' none ∧ w'.heap.size = w.heap.size + 1 := by
  obtain ⟨D, h1, h2⟩ := h
  obtain ⟨w', hr, r1, r2, r3⟩ := h1.range M.law M.und
  refine ⟨w', _, hr, ⟨n, D, _, r1, h2, fun x hx => ?_, List.nodup_nil, fun x h => absurd h (by simp)⟩, r2, r3⟩
  rw [h2.has x hx]
  simp [memB]
/-- a step: nothing is left, or a key that has not been met. -/
theorem Rng.next (h : Rng M w b r ks f got cnt) (ty : TypeId) :
    ((∀ x ∈ ks, x ∈ got) ∧ (Instr.next (.pointer (some ⟨r, 0, none⟩)) false ty).run Tryz.prog w = .ok (.tuple #[.bool false]) w) ∨
    ∃ x c w' cnt', M.good x ∧ x ∈ ks ∧ x ∉ got ∧ (Instr.next (.pointer (some ⟨r, 0, none⟩)) false ty).run Tryz.prog w = .ok (.tuple #[.bool true, M.vl x, .int .i64 c]) w' ∧ Rng M w' b r ks f (got ++ [x]) cnt' ∧ cnt' < cnt ∧ w.grownBy w' (some r) ∧ w'.heap.size = w.heap.size ∧
      (Instr.entry (.pointer (some ⟨r, 0, none⟩))).run Tryz.prog w' = .ok (.tuple #[M.vl x, .int .i64 c]) w' := by
  obtain ⟨n, D, left, h1, h2, h3, h4, h5⟩ := h
  rcases h1.next M.law ty with ⟨h0, hl, hrun⟩ | ⟨key, v, kl, y, w', cnt', hkey, hlk, hv, hat, hrun, hrg, hlt, hgr, hsz, hen⟩
  · refine .inl ⟨fun x hx => ?_, hrun⟩
    have h6 := (hl (M.lit x)).symm.trans (h3 x (h2.good x hx))
    exact rng_done (memB_iff.2 hx) h6
  · obtain ⟨x, hx, rfl⟩ := M.inv key kl hkey
    obtain rfl : M.lit x = kl := Option.some.inj ((M.key x hx).symm.trans hkey)
    obtain ⟨c, rfl, _⟩ := plainElem_int_inv Tryz.underlying3 hv
    have hm2 := rng_more (hlk.symm.trans (h3 x hx))
    have hxk := hm2.1
    have hxg := hm2.2
    refine .inr ⟨x, c, w', cnt', hx, hxk, hxg, hrun, ⟨n, D, _, hrg, h2, fun z hz => ?_, ?_, ?_⟩, hlt, hgr, hsz, hen⟩
    · have hs : (M.lit z).sameKey (M.lit x) = decide (z = x) := by
        rw [Bool.eq_iff_iff, WideAt.sameKey_iff (MKind.isKey hx), decide_eq_true_eq]
        exact ⟨fun e => MKind.lit_inj hz hx e, fun e => congrArg M.lit e⟩
      exact rng_step (h3 z hz) hs
    · rw [List.nodup_append]
      exact ⟨h4, by simp, fun a ha b hb => by simp at hb; subst hb; exact fun e => hxg (e ▸ ha)⟩
    · intro z hz
      rcases List.mem_append.1 hz with hz | hz
      · exact h5 z hz
      · simp at hz; subst hz; exact hxk
end
abbrev Rep.encK (r : Rep) : Array Value := #[r.val]
set_option maxRecDepth 100000 in
set_option maxHeartbeats 1000000 in
theorem keys_seq (Bm b n m : Nat) (ks : List Rep) (f : Rep → Int) (w : World) (hm : 1 ≤ m) (hBm : Blk w Bm 83 #[.map (some b)]) (hO : OnMap KR w b n ks f) :
    SeqStopsK Fence.wide m Tryz.prog 96 #[.pointer (some ⟨Bm, 0, none⟩)] Rep.encK KeepsWalks (fun xs => xs.Nodup ∧ ∀ x, x ∈ xs ↔ x ∈ ks) (fun _ => True) ks.length w := by
  intro l J Jx W hW hJ hJx hY h0
  have hlb := hO.lt
  have hO1 : OnMap KR W b n ks f := hO.below hW hlb
  have c0 : W.cell? ⟨Bm, 0, none⟩ = some (.map (some b)) := (hBm.below hW hBm.lt).cell 0
  obtain ⟨w1, cnt, hrun, hrg, hg1, hs1⟩ := hO1.range
  have hrun : (Instr.range 83 (.map (some b))).run Tryz.prog W = .ok (.pointer (some ⟨W.heap.size, 0, none⟩)) w1 := hrun
  have h1 : J [] w1 := hJ _ _ _ none h0 hg1 (fun r e => by cases e)
  have Hrg := Lib.hid hrg
  have H1 := Lib.hid h1
  have HY := Lib.hid hY
  have hlbW : b < W.heap.size := Nat.lt_of_lt_of_le hlb hW.size
  clear hO hO1 hrg h1 h0 hBm hW hg1 hY
  refine callsIn_of_wp Tryz.func96 rfl trivial ?_ rfl
  simp only [Tryz.ntmps96, List.size_toArray, List.length_cons, List.length_nil, Nat.reduceAdd, Nat.reduceSub, Array.replicate_succ, Array.replicate_zero, List.push_toArray, List.append_toArray, List.nil_append, List.cons_append]
  gi_wp2
  gi_loopw [3] (fun _ wr => ∃ got cnt, Rng KR wr b W.heap.size ks f got cnt ∧ J got wr) (fun _ wr => wr.rangeLeft b W.heap.size)
  case atStart => exact ⟨[], cnt, Hrg.out, H1.out⟩
  case round =>
    clear c0 hrun Hrg H1
    obtain ⟨got, cnt, hrg, hJg⟩ := hrel
    have hle := hrg.left_eq
    rcases hrg.next 0 with ⟨hall, hrun⟩ | ⟨x, c, w2, cnt2, hx, hxk, hxg, hrun0, hrg2, hlt, hg2, hs2, hen0⟩
    · have hend : got.Nodup ∧ ∀ x, x ∈ got ↔ x ∈ ks := ⟨hrg.nodup, fun x => ⟨hrg.sub x, hall x⟩⟩
      clear hrg
      gi_wp2
      go_end0
      exact ⟨⟨_, rfl⟩, .inl ⟨got, hend, hJg⟩⟩
    · have hr2 := hrg.lt
      obtain ⟨ob, hob, hobw⟩ := hrg.obj
      have hJ2 : J got w2 := hJ _ _ _ (some W.heap.size) hJg hg2 (fun r e => by cases e; exact ⟨Nat.le_refl _, ob, hob, hobw⟩)
      have hJ3 : J got (w2.alloc (.cells #[.string x.unit, .int .i64 x.code] 32)) := hJ _ _ _ none hJ2 (World.grownBy_alloc _ _ _) (fun r e => by cases e)
      have hlen : got.length < ks.length := by
        have h1 := len_le (got ++ [x]) ks hrg2.nodup hrg2.sub
        simp at h1
        omega
      obtain ⟨fn, tmps, assign, body, hy, hR⟩ := HY.out got x (w2.alloc (.cells #[.string x.unit, .int .i64 x.code] 32)) hJ3 hlen
      have hrg3 := hrg2.alloc (.cells #[.string x.unit, .int .i64 x.code] 32)
      have hen : (Instr.entry (.pointer (some ⟨W.heap.size, 0, none⟩))).run Tryz.prog w2 = .ok (.tuple #[.agg #[.string x.unit, .int .i64 x.code], .int .i64 c]) w2 := hen0
      have hrun : (Instr.next (.pointer (some ⟨W.heap.size, 0, none⟩)) false 0).run Tryz.prog wr = .ok (.tuple #[.bool true, .agg #[.string x.unit, .int .i64 x.code], .int .i64 c]) w2 := hrun0
      dsimp only [Rep.encK, Rep.val] at hy hR
      have Hrg3 := Lib.hid hrg3
      have Hle := Lib.hid hle
      clear hrg hrg2 hJ2 hJ3 hrg3 hob hle HY hJg hrun0 hen0
      gi_wp2
      refine hR.mono ?_
      rintro e' W3 (⟨rfl, hJ3, hk3⟩ | ⟨rfl, hJx3⟩)
      · have hrg4 := Hrg3.out.keeps hk3
        have hle4 := hrg4.left_eq
        have HF := Lib.hid (And.intro hJ3 (And.intro hrg4 hle4))
        clear hJ3 hrg4 hk3 hle4 hR hy hrun hen
        gi_wp2
        go_roundw
        case rel => exact ⟨_, _, HF.out.2.1, HF.out.1⟩
        case measure => rw [HF.out.2.2, Hle.out]; exact hlt
      · clear hR hy hrun hen
        gi_wp2
        refine bodyPost_ret (results_none rfl _ _ _) rfl ?_
        exact ⟨⟨_, rfl⟩, .inr ⟨_, trivial, hJx3⟩⟩
theorem keys_c (mv : Option Nat) (w : World) : Calls Tryz.prog 67 #[.map mv] w fun e w' => e = .returned (.func (.func 96) #[] #[.pointer (some ⟨w.heap.size, 0, none⟩)]) ∧ w' = w.alloc (.cells #[.map mv] 83) := by
  go_enter Tryz.func67, Tryz.ntmps67
  go_wp2
  go_ret
  exact ⟨rfl, rfl⟩
end Go.Proofs.YtknojjlfgjkbiaaGreatDoor
/- slices.Collect of a map's keys. -/
namespace Go.Proofs.YtknojjlfgjkbiaaGreatDoor
open Go.ChangeShapes Go.WideShapes Go.ChangeAt Go.RowKit
attribute [local go_sem] Oper.semAt_some

/-- the collected keys so far. -/
structure ColSt (w : World) (xs : List Rep) (v : Value) (W : World) : Prop where
  below : Below w.heap.size w W
  size : w.heap.size + 1 ≤ W.heap.size
  box : Blk W w.heap.size 23 #[v]
  own : W.ownsRow (w.heap.size + 1) 32 2 v xs.length (xs.flatMap Rep.cells)
theorem ColSt.grow {w W W' : World} {xs : List Rep} {v : Value} (h : ColSt w xs v W) {row : Option Nat} (hg : W.grownBy W' row) (hr : ∀ r, row = some r → w.heap.size + 1 ≤ r ∧ (∀ o : Obj, W.heap[r]? = some o → o.isCells = false)) : ColSt w xs v W' :=
  ⟨h.below.grown hg (by have := h.size; omega) (fun j e => by have := (hr j e).1; omega), Nat.le_trans h.size hg.size, h.box.grown hg (fun e => by have := (hr _ e.symm).1; omega), own_keep h.own hg (fun r e => (hr r e).2)⟩
theorem ColSt.step {w W wo : World} {xs : List Rep} {v v' : Value} {x : Rep} {o : Obj} (h : ColSt w xs v W) (hown : wo.ownsRow (w.heap.size + 1) 32 2 v' (xs.length + 1) (xs.flatMap Rep.cells ++ x.cells)) (hg2 : (W.alloc o).grownBy wo v.ownBlock) : ColSt w (xs ++ [x]) v' (wo.setCell ⟨w.heap.size, 0, none⟩ v') := by
  have hs2 := hg2.size
  simp at hs2
  have hsz := h.size
  have hown1 := h.own.alloc o
  have hnb : ∀ g, g < w.heap.size + 1 → some g ≠ v.ownBlock := fun g hlt e => by have := (hown1.lt g e.symm).1; omega
  have hb2 : Below w.heap.size w wo := (h.below.alloc (by omega) o).grown hg2 (by simp; omega) (fun g hg => by have := (hown1.lt g hg).1; omega)
  have b9 : Blk wo w.heap.size 23 #[v] := (h.box.alloc o).grown hg2 (hnb _ (by omega))
  have b9' := b9.set_ 0 v'
  refine ⟨hb2.setCell (Nat.le_refl _) _, by simp [World.setCell]; omega, by simpa using b9', ?_⟩
  have : wo.ownsRow (w.heap.size + 1) 32 2 v' (xs ++ [x]).length ((xs ++ [x]).flatMap Rep.cells) := by simpa using hown
  exact this.kept (grown_setCell wo ⟨w.heap.size, 0, none⟩ v') (.inr (own_blk_ne this b9 (by decide)))
theorem keepsO_below {W W' : World} (h : Below W.heap.size W W') : KeepsOthers W W' := ⟨h.size, fun k o hk _ => (h.block k (Array.getElem?_eq_some_iff.1 hk).1).trans hk⟩
theorem keepsO_own {base : Nat} {e : TypeId} {size n : Nat} {v : Value} {xs : List Value} {X Y : World} (hown : X.ownsRow base e size v n xs) (hg : X.grownBy Y v.ownBlock) : KeepsOthers X Y :=
  ⟨hg.size, fun k o hk ho => (hg.block k (Array.getElem?_eq_some_iff.1 hk).1 (fun e => own_blk_def hown hk ho e.symm)).trans hk⟩
theorem keepsO_set {g : Nat} {t : TypeId} {cs : Array Value} {X : World} (hb : Blk X g t cs) (u : Value) : KeepsOthers X (X.setCell ⟨g, 0, none⟩ u) :=
  ⟨by simp [World.setCell], fun k o hk ho => (Below.heap_setCell X ⟨g, 0, none⟩ u k (fun e => by
    have e : k = g := e
    subst e
    rw [show X.heap[k]? = _ from hb] at hk
    cases hk; cases ho)).trans hk⟩
theorem keepsW_of {W W' : World} (h : KeepsOthers W W') : KeepsWalks W W' := ⟨h.size, fun k o hk ho => h.same k o hk (by cases o <;> first | rfl | cases ho)⟩

theorem own_shut {W W' : World} {B b e s n : Nat} {v : Value} {xs : List Value} (h : W.ownsRow b e s v n xs) (hs : Shut B W W') : W'.ownsRow b e s v n xs := by
  refine ⟨h.1, ?_⟩
  rcases h.2 with h2 | ⟨g, cap, cur, h1, h2, h3, h4⟩
  · exact .inl h2
  · exact .inr ⟨g, cap, cur, h1, h2, hs.cells _ _ h3 rfl, h4⟩
set_option maxRecDepth 100000 in
set_option maxHeartbeats 1000000 in
theorem appendSeq_c (Bm b n : Nat) (ks : List Rep) (f : Rep → Int) (w : World) (hBm : Blk w Bm 83 #[.map (some b)]) (hO : OnMap KR w b n ks f) (hl : ks.length ≤ 100000000) :
    Calls Tryz.prog 169 #[.slice none 0 0, .func (.func 96) #[] #[.pointer (some ⟨Bm, 0, none⟩)]] w fun e w' => ∃ (v : Value) (xs : List Rep), e = .returned v ∧ (xs.Nodup ∧ ∀ x, x ∈ xs ↔ x ∈ ks) ∧ w'.ownsRow (w.heap.size + 1) 32 2 v xs.length (xs.flatMap Rep.cells) ∧ Below w.heap.size w w' := by
  have hz : (w.alloc (.cells #[.slice none 0 0] 23)).heap.size = w.heap.size + 1 := by simp
  have h0 : ColSt w [] (.slice none 0 0) (w.alloc (.cells #[.slice none 0 0] 23)) := ⟨(Below.refl _ w).alloc (Nat.le_refl _) _, by simp, Blk.new w _ _, World.ownsRow_nil _ _ _ _⟩
  have hseq := keys_seq Bm b n (9 - 1) ks f (w.alloc (.cells #[.slice none 0 0] 23)) (by omega) (hBm.alloc _) (hO.alloc _)
  have Hseq := Lib.hid hseq
  have H0 := Lib.hid h0
  clear hBm hO h0 hseq
  refine (callsIn_wide (n := 9)).1 ?_
  refine callsIn_of_wp_marks Tryz.func169 rfl trivial ?_ rfl
  simp only [Tryz.ntmps169, List.size_toArray, List.length_cons, List.length_nil, Nat.reduceAdd, Nat.reduceSub, Array.replicate_succ, Array.replicate_zero, List.push_toArray, List.append_toArray, List.nil_append, List.cons_append]
  refine wpIn_wide.2 ?_
  go_wp2_with fail
  refine (wpIn_wide (n := 9)).1 ?_
  generalize w.alloc (.cells #[.slice none 0 0] 23) = w4 at *
  refine wpIn_rangeFunc_ownH (F := Fence.wide) rfl (by omega) (gf := 96) (lb := #[.pointer (some ⟨Bm, 0, none⟩)]) rfl trivial (enters_of Tryz.func96 (by kernel_rfl) rfl)
    (encs := Rep.encK) Hseq.out
    (fun h1 h2 => h1.trans h2) (fun W l o o' _ hh _ hw => KeepsWalks.putObj o' hh hw) (Below.refl _ _) (fun _ => rfl)
    (fun pre W => ∃ v, ColSt w pre v W) (fun _ _ _ => False)
    (fun _ X Y row hs hg hr => by
      obtain ⟨v, h1⟩ := hs
      exact ⟨v, h1.grow hg (fun r e => by obtain ⟨q1, o, q2, q3⟩ := hr r e; exact ⟨by omega, fun o' ho' => by rw [q2] at ho'; cases ho'; exact q3⟩)⟩)
    (fun _ _ X Y row hs _ _ => hs)
    ⟨_, H0.out⟩
    (fun y a' W => ∃ Bx, w4.heap.size ≤ Bx ∧ Blk W Bx 32 #[.string y.unit, .int .i64 y.code] ∧ a' = { tmps := #[.slice none 0 0, .func (.func 96) #[] #[.pointer (some ⟨Bm, 0, none⟩)], .pointer (some ⟨w.heap.size, 0, none⟩), undef, .slice none 0 0, .pointer (some ⟨Bx, 0, none⟩), .func (.func 96) #[] #[.pointer (some ⟨Bm, 0, none⟩)], y.val, undef, undef, undef, undef, undef], defers := [] })
    (fun y a' s X Y row hs hg hr => by obtain ⟨Bx, h1, h2, h3⟩ := hs; exact ⟨Bx, h1, ownFrom_blk (β := Unit) w4.heap.size _ _ _ s X Y row h2 hg hr, h3⟩) ?assign ?body ?done ?stop
  case assign =>
    rintro l pre y W K ⟨v, hI⟩ hK
    have hs4 := hI.size
    dsimp only [Rep.encK, Rep.val]
    gi_wp2
    exact hK _ _ ((KeepsOthers.alloc _ _).from _) (KeepsWalks.alloc _ _) ⟨v, hI.grow (World.grownBy_alloc _ _ none) (fun r e => by cases e)⟩ ⟨W.heap.size, by omega, by simpa using Blk.new W 32 _, rfl⟩
  case body =>
    rintro l pre y a' W hl' ⟨r, hr⟩ ⟨v, hI⟩ ⟨Bx, hBx, hbx, rfl⟩ hlt2
    have c2 : W.cell? ⟨w.heap.size, 0, none⟩ = some v := hI.box.cell 0
    have c5 : W.cell? ⟨Bx, 0, none⟩ = some (.string y.unit) := hbx.cell 0
    have c6 : W.cell? ⟨Bx, 1, none⟩ = some (.int .i64 y.code) := hbx.cell 1
    obtain ⟨i0, hi0, hz0, hz1, hz2⟩ := info_parts info46
    have HI := Lib.hid hI
    have hsI := hI.size
    have hlen64 : pre.length ≤ 100000000 := by omega
    clear hI hbx Hseq
    gi_wp2_with (gi_at_builtin; refine wpListIn_append_own _ rfl _ _ 23 rfl (w.heap.size + 1) 32 i0 (.agg #[.string ⟨#[]⟩, .int .i64 0]) 2 24 Tryz.underlying23 hi0 hz0 hz1 hz2 rfl (by decide) _ _ _ rfl (HI.out.own.alloc _) ⟨W.heap.size, 0, none⟩ 1 1 [.string y.unit, .int .i64 y.code] rfl rfl ?c1 ?c2 ?c3 ?c4 ?c5 ?_)
    case c1 =>
      intro j u' hj
      rw [addr_add_none, Nat.zero_add, (Blk.new W 32 #[.string y.unit, .int .i64 y.code]).cell j]
      simpa using hj
    case c2 => intro u' hu'; simp at hu'; rcases hu' with rfl | rfl <;> rfl
    case c3 => unfold maxLen; omega
    case c4 => omega
    case c5 => simp; omega
    intro v5 wo hown5 hg5 _
    obtain ⟨g5, cp5, rfl, _⟩ := hown5.form (by omega)
    have hown1 := HI.out.own.alloc (.cells #[.string y.unit, .int .i64 y.code] 32)
    have b9o := (HI.out.box.alloc (.cells #[.string y.unit, .int .i64 y.code] 32)).grown hg5 (fun e => by have := (hown1.lt _ e.symm).1; omega)
    have f9 := b9o.frozen 0
    have c9 : wo.cell? ⟨w.heap.size, 0, none⟩ = some v := b9o.cell 0
    have hst := HI.out.step (x := y) hown5 hg5
    have hKO : KeepsOthers W (wo.setCell ⟨w.heap.size, 0, none⟩ (.slice (some ⟨g5, 0, none⟩) (pre.length + 1) cp5)) := (KeepsOthers.alloc _ _).trans ((keepsO_own hown1 hg5).trans (keepsO_set b9o _))
    have HR := Lib.hid (And.intro (hKO.from w4.heap.size) (And.intro (keepsW_of hKO) hst))
    clear hst hKO b9o hown1 hown5 hg5
    gi_wp2_with fail
    exact ⟨HR.out.1, HR.out.2.1, _, HR.out.2.2⟩
  case done =>
    rintro D ys W hD hys ⟨v, hI⟩ hK
    have c2 : W.cell? ⟨w.heap.size, 0, none⟩ = some v := hI.box.cell 0
    obtain ⟨Av, cv, rfl, _⟩ := own_caps hI.own
    have HI := Lib.hid hI
    clear hI Hseq
    go_wp2_with fail
    refine leaves_marks [D] W (w.heap.size + 1) (by simp) (fun E hE => by simp at hE; subst hE; exact ⟨by omega, hK⟩) fun W' hSh => ?_
    refine ⟨.slice Av ys.length cv, by simp [results, Tryz.f169, go_sem], _, ys, rfl, hys, ?_, HI.out.below.trans (hSh.below.mono (by omega))⟩
    exact own_shut HI.out.own hSh
  case stop =>
    intro D c' pre W _ _ h _
    exact h.elim
end Go.Proofs.YtknojjlfgjkbiaaGreatDoor
