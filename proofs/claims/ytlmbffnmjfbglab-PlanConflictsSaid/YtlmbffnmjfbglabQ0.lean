/- The walk of the search. -/
import Derived.Test.YtlmbffnmjfbglabQ3
set_option linter.unusedSimpArgs false
set_option linter.unusedVariables false
namespace Go.Proofs.Ytlmbffnmjfbglab
open Go.ChangeShapes Go.WideShapes Go.ChangeAt Go.RowKit

attribute [local go_sem] Oper.semAt_some

theorem nameIn {F : Fence} {n : Nat} {P : Program} {c : Code} {Q : Exit → Act → World → Prop} {a : Act} {w : World} (h : ∀ W0, W0 = w → c.wpIn F n P Q a W0) : c.wpIn F n P Q a w := h w rfl
theorem nameOf {f n : Nat} {P : Program} {c : Code} {Q : Exit → Act → World → Prop} {a : Act} {w : World} (h : ∀ W0, W0 = w → WpOf f n P c Q a W0) : WpOf f n P c Q a w := h w rfl
theorem wrap64_small (n : Nat) (h : n ≤ 65536) : wrap64 (n : Int) = (n : Int) := by unfold wrap64; omega
/-- the parts' times. -/
def PT (ps : List Part) : Prop := ps.length ≤ 6 ∧ ∀ p ∈ ps, 1 ≤ p.length ∧ p.length ≤ p.period ∧ p.period ≤ 2000
theorem SB.fa {W : World} {Bs : Nat} {name : ByteArray} {mem F : Int} {A : Option Addr} {ps : List Part} {c : Nat} {Ao : Option Addr} {os : List Int} {co : Nat} {t : Int} (h : SB W Bs name mem F A ps c Ao os co t) : ∀ b o, A = some ⟨b, o, none⟩ → 0 < ps.length → b < W.heap.size ∧ b ≠ Bs := fun b o e hn => by
  obtain ⟨b', o', e', hb, hc⟩ := h.pt hn
  rw [e] at e'
  injection e' with e'
  injection e' with e1 e2
  subst e1 e2
  refine ⟨hb, ?_⟩
  rintro rfl
  have h9 := hc 0 hn 9 _ rfl
  rw [h.blk.cell, Array.getElem?_eq_none (by simp)] at h9
  cases h9

set_option maxHeartbeats 1000000 in
theorem possible_c (w : World) (Bs : Nat) : Calls Try.prog 62 #[.pointer (some ⟨Bs, 0, none⟩)] w fun e w' => e = .returned (.func (.func 86) #[] #[.pointer (some ⟨w.heap.size, 0, none⟩)]) ∧ w' = w.alloc (.cells #[.pointer (some ⟨Bs, 0, none⟩)] 65) := by
  go_enter Try.func62, Try.ntmps62
  go_wp2
  go_ret
  exact ⟨rfl, rfl⟩

set_option maxRecDepth 100000 in
set_option maxHeartbeats 4000000 in
theorem try_succ (Bs : Nat) (name : ByteArray) (mem F : Int) (A : Option Addr) (ps : List Part) (c : Nat) (hps : PT ps) (r : Nat)
    (ih : ∀ (W : World) (Ao : Option Addr) (os : List Int) (co t : Nat), SB W Bs name mem F A ps c Ao os co t → OT W Ao os → os.length + r = ps.length → t ≤ 65536 → Calls Try.prog 37 #[.pointer (some ⟨Bs, 0, none⟩)] W (TryPost W Bs name mem F A ps c os t r))
    (w : World) (Ao : Option Addr) (os : List Int) (co t : Nat) (h : SB w Bs name mem F A ps c Ao os co t) (hO : OT w Ao os) (hn : os.length + (r + 1) = ps.length) (ht : t ≤ 65536) :
    Calls Try.prog 37 #[.pointer (some ⟨Bs, 0, none⟩)] w (TryPost w Bs name mem F A ps c os t (r + 1)) := by
  obtain ⟨_, _, _, c3, c4, _⟩ := h.cells
  have hz := h.blk.lt
  have hlt : os.length < ps.length := by omega
  have hdec : ((os.length : Int) == (ps.length : Int)) = false := by simp; omega
  have hB : Below w.heap.size w (((w.alloc (.cells #[.pointer (some ⟨Bs, 0, none⟩)] 65)).alloc (.cells #[.slice none 0 0] 29)).alloc (.cells #[.int .i64 os.length] 3)) := ((((Below.refl _ w).alloc (Nat.le_refl _) _).alloc (by simp) _).alloc (by simp; omega) _)
  have hb0 := ((Blk.new w 65 #[.pointer (some ⟨Bs, 0, none⟩)]).alloc (.cells #[.slice none 0 0] 29)).alloc (.cells #[.int .i64 os.length] 3)
  have hb1 := (Blk.new (w.alloc (.cells #[.pointer (some ⟨Bs, 0, none⟩)] 65)) 29 #[.slice none 0 0]).alloc (.cells #[.int .i64 os.length] 3)
  have hb2 := Blk.new ((w.alloc (.cells #[.pointer (some ⟨Bs, 0, none⟩)] 65)).alloc (.cells #[.slice none 0 0] 29)) 3 #[.int .i64 os.length]
  simp only [World.size_alloc] at hb1 hb2
  have hsz : w.heap.size + 3 ≤ (((w.alloc (.cells #[.pointer (some ⟨Bs, 0, none⟩)] 65)).alloc (.cells #[.slice none 0 0] 29)).alloc (.cells #[.int .i64 os.length] 3)).heap.size := by simp
  have Hn := Lib.hid hn
  clear hn
  refine (callsIn_wide (n := 5)).1 (callsIn_of_wpOf Try.func37 rfl ?_)
  simp only [Try.ntmps37, List.size_toArray, List.length_cons, List.length_nil, Nat.reduceAdd, Nat.reduceSub, Array.replicate_succ, Array.replicate_zero, List.push_toArray, List.append_toArray, List.nil_append, List.cons_append]
  refine WpOf.seq (WpOf.of_in ?_)
  gi_wp2_with fail
  refine WpOf.seq (WpOf.of_in ?_)
  gi_wp2_with fail
  refine WpOf.seq (WpOf.of_in ?_)
  refine nameIn fun W1 hW1 => ?_
  rw [← hW1] at hB hb0 hb1 hb2 hsz
  clear hW1
  have hS1 := h.next hB
  have hR : RI0 w Bs name mem F A ps c os.length W1 os t [] (.slice none 0 0) [] Ao co :=
    ⟨below_grown hB, hsz, hb0, hb1, hb2, hS1, hz, h.fa, hO.gr (X := fun _ => False) (.of_below hB) (fun _ _ _ _ x => x), World.ownsRow_nil _ _ _ _, CVs.nil⟩
  clear c3 c4
  obtain ⟨_, _, _, c3, c4, _⟩ := hS1.cells
  have q0 : W1.cell? ⟨w.heap.size, 0, none⟩ = some (.pointer (some ⟨Bs, 0, none⟩)) := hb0.cell 0
  have q2 : W1.cell? ⟨w.heap.size + 1 + 1, 0, none⟩ = some (.int .i64 os.length) := hb2.cell 0
  have Hh := Lib.hid h
  have HO := Lib.hid hO
  clear h hO hS1 hb0 hb1 hb2 hsz hB
  gi_wp2_with fail
  refine wpIn_wide.2 ?_
  go_quiet (fail)
  gi_wp2_with fail
  have hR2 := hR.below (below_drewN (Below.refl _ _) nq)
  clear hR c3 c4
  have q0' : (W1.drewN nq).cell? ⟨w.heap.size, 0, none⟩ = some (.pointer (some ⟨Bs, 0, none⟩)) := hR2.b0.cell 0
  clear q0 q2
  revert hR2 q0'
  generalize W1.drewN nq = W2
  intro hR2 q0
  have hpc := possible_c W2 Bs
  refine WpOf.seq (WpOf.seq (WpOf.of_in ?_))
  gi_wp2_with fail
  refine wide_call hpc ?_
  rintro e W3 ⟨rfl, hW3⟩
  have hbn : Blk W3 W2.heap.size 65 #[.pointer (some ⟨Bs, 0, none⟩)] := hW3 ▸ Blk.new W2 65 _
  have hR3 := hR2.below (W' := W3) (hW3 ▸ (Below.refl _ W2).alloc (Nat.le_refl _) _)
  have hBn := hR2.size
  have hBW : w.heap.size + 3 ≤ W3.heap.size := hR3.size
  clear hpc q0 hR2
  generalize W2.heap.size = Bn at *
  clear hW3
  gi_wp2_with fail
  obtain ⟨p, hp⟩ : ∃ p, p = ps[os.length] := ⟨_, rfl⟩
  obtain ⟨hp1, hp2, hp3⟩ := hps.2 p (hp ▸ List.getElem_mem _)
  have hN : nOff ps os.length = (p.period - p.length + 1).toNat := by simp [nOff, hlt, hp]
  have htry : tryR ps (r + 1) os t = prefR ps (tryR ps r) os t (p.period - p.length + 1).toNat := by rw [← hN]; rfl
  have hsq := possible1_seq 4 Bn Bs name mem F A ps c os hlt hps.1 p hp hp1 hp2 hp3
  have hN2 : (p.period - p.length + 1).toNat ≤ 2000 := by omega
  generalize (p.period - p.length + 1).toNat = N at hsq htry hN2
  refine WpOf.block (R := fun a w => _) (S := fun ch a w => _) ?_ (fun _ _ h => h) (fun _ _ _ h => h)
  refine wpOf_rangeP (gf := 86) (lb := #[.pointer (some ⟨Bn, 0, none⟩)]) rfl (enters_of Try.func86 (by kernel_rfl) rfl)
    (fun k => #[.int .i64 k, .int .i64 (conflP ps os k)]) (fun _ => rfl) N _ _ _ _ hsq
    (fun k W => k ≤ N ∧ Blk W Bn 65 #[.pointer (some ⟨Bs, 0, none⟩)] ∧ IR w Bs name mem F A ps c os t (tryR ps r) 0 k W)
    (fun k W => k < N ∧ Blk W Bn 65 #[.pointer (some ⟨Bs, 0, none⟩)] ∧ IR w Bs name mem F A ps c os t (tryR ps r) 1 k W)
    (fun W => w.grownBy W (some Bs) ∧ tryR ps (r + 1) os t = .stop [] 5)
    (fun W => IR w Bs name mem F A ps c os t (tryR ps r) 0 N W)
    (fun ch W => ∃ a er A' c', tryR ps (r + 1) os t = .stop a er ∧ ch = [{ v := .iface 63 (.agg #[.slice A' a.length c', .int .i64 er]), recovered := false }] ∧ w.grownBy W (some Bs) ∧ RdF w.heap.size W A' a)
    ?hI ?hIm ?hIf ?hOk ?hA ?hO ?hF ?h0 ?act ?hfn ?assign ?body ?hend ?hpan
  case hI => exact OwnFrom.and (ownFrom_pure _ _) (OwnFrom.and (ownFrom_blk _ _ _ _) (IR.own hBW))
  case hIm => exact OwnFrom.and (ownFrom_pure _ _) (OwnFrom.and (ownFrom_blk _ _ _ _) (IR.own hBW))
  case hIf => exact fun k X Y row h hg hr => IR.own hBW N X Y row h hg hr
  case hOk =>
    rintro k W ⟨hk, hb, cl, t1, V, L, Ao1, co1, _, h2, h3⟩
    exact ⟨⟨hb, (t1 : Int), by omega, by omega, Ao1, co1, h3.sb⟩, hk⟩
  case hA =>
    rintro k Wa Wb ⟨hk, hb, cl, t1, V, L, Ao1, co1, h1, h2, h3⟩ hkN ⟨t', hx, hle, hbel⟩
    obtain rfl := h3.tEq hx
    obtain ⟨a1, a2, a3⟩ := h3.tries hbel
    simp only [Bool.false_eq_true, if_false] at hle
    exact ⟨a1, hkN, a3 _ _ _ (by omega) hb, cl, t1, V, L, Ao1, co1, h1, by omega, a2⟩
  case hO =>
    rintro k Wa Wb ⟨hk, hb, cl, t1, V, L, Ao1, co1, h1, h2, h3⟩ hkN ⟨t', hx, hle, hbel⟩
    obtain rfl := h3.tEq hx
    obtain ⟨a1, a2, a3⟩ := h3.tries hbel
    simp only [if_true] at hle
    refine ⟨a1, a2.grown, ?_⟩
    rw [htry]
    refine prefR_stop ps _ os t N (k + 1) hkN ?_
    simp only [prefR, h1, oneR]
    rw [if_pos (by omega)]
  case hF =>
    rintro Wa Wb ⟨hk, hb, cl, t1, V, L, Ao1, co1, h1, h2, h3⟩ hbel
    exact ⟨cl, t1, V, L, Ao1, co1, h1, h2, h3.below hbel⟩
  case h0 => exact ⟨Nat.zero_le _, hbn, [], t, _, [], Ao, co, rfl, ht, hR3⟩
  case hfn => exact ⟨_, Try.func37⟩
  case assign =>
    intro l k W K hK
    gi_wp2
    exact hK
  case hend =>
    rintro W ⟨cl, t1, V, L, Ao1, co1, h1, h2, h3⟩ hD
    obtain ⟨VA, Vc, rfl, _, _, _⟩ := h3.post
    have q2 : W.cell? ⟨w.heap.size + 1, 0, none⟩ = some (.slice VA cl.length Vc) := h3.b1.cell 0
    simp only [Exit.then]
    refine WpOf.of_in ?_
    have h4 := h3.self (W' := W.setCell ⟨w.heap.size + 1, 0, none⟩ (.slice VA cl.length Vc)) (Gr.setCell W _ _ rfl) (h3.b1.set_ 0 _)
    have hD4 : (W.setCell ⟨w.heap.size + 1, 0, none⟩ (.slice VA cl.length Vc)).heap[W3.heap.size]? = some (.deferred (some [])) := (Below.heap_setCell W _ _ _ (by simp; omega)).trans hD
    have H4 := Lib.hid h4
    have hfz := h3.b1.frozen 0
    clear h4 h3 hsq hD hR3
    gi_wp2_with fail
    refine leaves_marksM (m := .returning) (by simp) [_] _ (w.heap.size + 3) (by simp) (fun D hD => ?_) fun W' hS => ?_
    · obtain rfl : D = W3.heap.size := by simpa using hD
      exact ⟨hBW, hD4⟩
    have h5 := H4.out.turn (hS.gr (Nat.le_refl _)) fun b _ x => x
    obtain ⟨A', c', e5, a1, a2, a3⟩ := h5.post
    rw [e5] at h5
    have q5 := h5.b1.cell 0
    refine ⟨.slice A' cl.length c', ?_, TryPost.of_claims h5.grown (htry.trans h1) a1 a2 a3 ⟨Ao1, co1, h5.sb, h5.fo⟩⟩
    simp at q5
    simp [results, Try.results37, go_sem, q5]
  case hpan =>
    rintro ch W hI hD
    simp only [Exit.then]
    refine leaves_marksM (by simp) [_] W (w.heap.size + 3) (by simp) (fun D hD' => ?_) fun W' hS => ?_
    · obtain rfl : D = W3.heap.size := by simpa using hD'
      exact ⟨hBW, hD⟩
    have hgr : ∀ {W : World}, w.grownBy W (some Bs) → w.grownBy W (some Bs) := fun h => h
    rcases hI with ⟨a, er, A', c', e1, rfl, e3, e4⟩ | ⟨rfl, e3, e1⟩
    · refine TryPost.of_stop ((hS.gr (Nat.le_refl _)).grown e3 fun k hk x => by omega) e1 ⟨fun hn => ?_, e4.2⟩
      obtain ⟨b, o, rfl, hb, hc⟩ := e4.1 hn
      refine ⟨b, o, rfl, Nat.lt_of_lt_of_le hb hS.size, fun i hi => ?_⟩
      obtain ⟨ob, ho, hcl⟩ := cells_of_cell (hc i hi)
      exact (World.cell?_of_block ((hS.cells _ _ ho hcl).trans ho.symm)).trans (hc i hi)
    · exact TryPost.of_stop (a := []) (A' := none) (c' := 0) ((hS.gr (Nat.le_refl _)).grown e3 fun k hk x => by omega) e1 RdF.nil
  case body =>
    rintro l k W ⟨hkN, hb, cl, t1, V, L, Ao1, co1, h1, h2, h3⟩
    clear hsq hR3 hbn
    have q1 : W.cell? ⟨w.heap.size + 1, 0, none⟩ = some V := h3.b1.cell 0
    obtain ⟨VA, Vc, rfl, hVc, _, _⟩ := h3.post
    have hk2000 : k ≤ 2000 := by omega
    have hcl := prefR_len ps (tryR ps r) os t k cl t1 h1
    have hwr := IntWalk.i64_in ((cl.length : Int) - 1) (by omega)
    have hBnB : Bn ≠ Bs := by have := h3.lt; have := h3.size; omega
    by_cases hcf : conflP ps os k < 0
    · have d1 : decide (conflP ps os k < 0) = true := decide_eq_true hcf
      have hpre : ∀ sub t', tryR ps r (os ++ [(k : Int)]) (t1 + 1) = .claims sub t' → prefR ps (tryR ps r) os t (k + 1) = .claims (cl ++ [.mk k k (-1) sub]) t' := fun sub t' hR => by
        simp only [prefR, h1, oneR]
        rw [if_neg (by omega), if_pos hcf, hR]
      have hpst : ∀ a er, tryR ps r (os ++ [(k : Int)]) (t1 + 1) = .stop a er → tryR ps (r + 1) os t = .stop a er := fun a er hR => by
        rw [htry]
        refine prefR_stop ps _ os t N (k + 1) hkN ?_
        simp only [prefR, h1, oneR]
        rw [if_neg (by omega), if_pos hcf, hR]
      have hle : ∀ sub t', tryR ps r (os ++ [(k : Int)]) (t1 + 1) = .claims sub t' → t' ≤ 65536 := fun sub t' hR => tryR_tries ps r _ _ _ _ h2 hR
      have HPre := Lib.hid hpre
      have HPst := Lib.hid hpst
      have HLe := Lib.hid hle
      clear hpre hpst hle
      gi_wp2_with fail
      refine reg10_c W Bn k h3 hb hBnB (by have := hps.1; omega) _ ?_ ?_ ?_
      · rintro ⟨_, _, h⟩; exact h
      · exact fun d _ _ _ _ h => by cases d <;> exact h
      clear h3 hb
      rintro W5 Ao5 co5 _ _ _ _ _ _ _ _ _ _ _ _ _ hko5 hb5 h5
      gi_wp2_with fail
      refine reg11_c r ih W5 VA Vc Bn k h5 hb5 hBnB (by omega) (by simp; have := Hn.out; omega) h2 _ ?_ ?_ ?_ ?_
      · rintro ⟨_, _, h⟩; exact h
      · exact fun d _ _ _ _ h => by cases d <;> exact h
      · clear h5 hb5
        rintro W6 V6 L6 Ao6 co6 sub t' _ _ _ _ _ _ _ _ _ _ hR hko6 hb6 h6
        have hpre := HPre.out sub t' hR
        have ht' := HLe.out sub t' hR
        clear HPre HPst HLe hR
        gi_wp2_with fail
        refine reg12_c W6 Bn k h6 hb6 hBnB _ ?_ ?_ ?_
        · rintro ⟨_, _, h⟩; exact h
        · exact fun d _ _ _ _ h => by cases d <;> exact h
        clear h6 hb6
        rintro a' W7 hko7 hb7 h7
        exact ⟨(hko5.trans hko6).trans hko7, by omega, hb7, _, _, _, _, _, _, hpre, by omega, h7⟩
      · rintro W6 a er A' c' a' hd hR hko6 hgr hri
        exact ⟨hd, hko5.trans hko6, a, er, A', c', HPst.out a er hR, rfl, hgr, hri⟩
    · have d1 : decide (conflP ps os k < 0) = false := decide_eq_false hcf
      have hpre : prefR ps (tryR ps r) os t (k + 1) = .claims (extend cl k (conflP ps os k)) (t1 + 1) := by
        simp only [prefR, h1, oneR]
        rw [if_neg (by omega), if_neg (by omega)]
      rcases List.eq_nil_or_concat cl with hc0 | ⟨cl0, ⟨f, t0, wi, sub⟩, hc0⟩
      · have hne : ¬ ((cl.length : Int) - 1 ≥ 0) := by simp [hc0]
        have HE : Hid (extend cl k (conflP ps os k) = cl ++ [.mk k k (conflP ps os k) []]) := by subst hc0; rfl
        have HP := Lib.hid hpre
        clear hc0 hpre
        gi_wp2_with fail
        refine reg8_c W VA Vc Bn k _ h3 hb (by omega) _ ?_ ?_ ?_
        · rintro ⟨_, _, h⟩; exact h
        · exact fun d _ _ _ _ h => by cases d <;> exact h
        clear h3 hb
        rintro a' W7 V7 L7 hko7 hb7 h7
        exact ⟨hko7, by omega, hb7, _, _, _, _, _, _, HP.out.trans (by rw [HE.out]), by omega, h7⟩
      · rw [List.concat_eq_append] at hc0
        subst hc0
        clear q1 hwr
        obtain ⟨n0, hn0⟩ : ∃ n, cl0.length = n := ⟨_, rfl⟩
        simp only [List.length_append, List.length_cons, List.length_nil, Nat.zero_add, hn0] at hVc h3 hcl
        obtain ⟨g, cap, e, hgB, hgW⟩ := h3.own.form (by simp)
        injection e with e1 e0 e2
        subst e1 e2
        clear e0
        obtain ⟨L0, x, rfl⟩ : ∃ L0 x, L = L0 ++ [x] := by
          rcases List.eq_nil_or_concat L with rfl | ⟨L0, x, rfl⟩
          · have := h3.cvs.1; simp at this
          · exact ⟨L0, x, List.concat_eq_append⟩
        have hl0 : L0.length = n0 := by have := h3.cvs.1; simp at this; omega
        have hxw : x.w = wi := by
          have := (h3.cvs.2 n0 (by simp; omega) (by simp; omega)).2.2.1
          rw [List.getElem_append_right (by omega), List.getElem_append_right (by omega)] at this
          simpa [Claim.wth] using this
        have hcw : W.cell? ⟨g, n0 * 4 + 2, none⟩ = some (.int .i64 wi) := by
          have h0 := CV.get (L0 ++ [x]) n0 (by simp; omega)
          have := h3.own.cells (g := g) rfl (n0 * 4 + 2) _ h0.2.2.1
          rw [add_none, Nat.zero_add] at this
          rw [this]
          simp [← hl0, ← hxw]
        have hct : ∃ v, W.cell? ⟨g, n0 * 4 + 1, none⟩ = some v := by
          have h0 := CV.get (L0 ++ [x]) n0 (by simp; omega)
          have := h3.own.cells (g := g) rfl (n0 * 4 + 1) _ h0.2.1
          rw [add_none, Nat.zero_add] at this
          exact ⟨_, this⟩
        have hcz : W.frozen? ⟨g, n0 * 4 + 1, none⟩ = false := by
          have ho := h3.own
          simp only [List.length_append, List.length_cons, List.length_nil, Nat.zero_add, hn0] at ho
          exact ho.frozenAt _
        obtain ⟨v1, hct⟩ := hct
        have q1 : W.cell? ⟨w.heap.size + 1, 0, none⟩ = some (.slice (some ⟨g, 0, none⟩) (n0 + 1) Vc) := h3.b1.cell 0
        have hlt1 : ((n0 : Int) < (n0 : Int) + 1) := by omega
        have hi0 : (0 : Int) ≤ (n0 : Int) := by omega
        have hwr3 : wrap64 (n0 : Int) = (n0 : Int) := wrap64_small n0 (Nat.le_trans (Nat.le_of_succ_le hcl) (Nat.le_trans hk2000 (by decide)))
        have HP := Lib.hid hpre
        have hcl2 : (cl0 ++ [Claim.mk f t0 wi sub]).length ≤ 2000 := by
          rw [List.length_append, hn0]
          exact Nat.le_trans hcl hk2000
        have Hcl2 := Lib.hid hcl2
        clear hpre hl0 hxw hn0 hcl2
        have hfin : ∀ W' cl' V' L' Ao' co', KeepsOthers W W' → Blk W' Bn 65 #[.pointer (some ⟨Bs, 0, none⟩)] → RI0 w Bs name mem F A ps c os.length W' os (t1 + 1 : Nat) cl' V' L' Ao' co' → extend (cl0 ++ [.mk f t0 wi sub]) k (conflP ps os k) = cl' → ∀ a, postP (fun k W => k ≤ N ∧ Blk W Bn 65 #[.pointer (some ⟨Bs, 0, none⟩)] ∧ IR w Bs name mem F A ps c os t (tryR ps r) 0 k W) (fun ch W => ∃ a er A' c', tryR ps (r + 1) os t = .stop a er ∧ ch = [{ v := .iface 63 (.agg #[.slice A' a.length c', .int .i64 er]), recovered := false }] ∧ w.grownBy W (some Bs) ∧ RdF w.heap.size W A' a) k W .normal a W' := fun W' cl' V' L' Ao' co' hk hb' h' he a => ⟨hk, by omega, hb', _, _, _, _, _, _, HP.out.trans (by rw [he]), by omega, h'⟩
        have Hfin := Lib.hid hfin
        have H3 := Lib.hid h3
        have Hb := Lib.hid hb
        clear hfin ih htry h1 h3 hb h2 hp hp1 hp2 hp3 hN hN2 hkN HP hVc hcl hgB hgW hk2000 hps ht hz hdec hBW hBn
        by_cases hw : wi = conflP ps os k
        · have HE : Hid (extend (cl0 ++ [.mk f t0 wi sub]) k (conflP ps os k) = cl0 ++ [.mk f k wi sub]) := by unfold Hid; simp [extend, hw]
          have hwd : (wi == conflP ps os k) = true := by simp [hw]
          clear hw
          gi_wp2_with fail
          have h3 := H3.out
          have hlen : n0 = cl0.length := by
            obtain ⟨_, _, e, _⟩ := h3.post
            injection e with _ e _
            simpa using e
          subst hlen
          have hl0 : L0.length = cl0.length := by have := h3.cvs.1; simp at this; omega
          have hgn : Bn ≠ g := by
            rintro rfl
            obtain ⟨_, _, cur, hc⟩ := h3.ownNe (b := Bn) rfl
            have h6 := Hb.out
            unfold Blk at h6
            rw [hc] at h6; cases h6
          exact Hfin.out _ _ _ _ _ _ (KeepsOthers.setCell _ _ _) (Hb.out.far (p := ⟨g, cl0.length * 4 + 1, none⟩) hgn _) (h3.last hl0 k) HE.out ⟨#[], []⟩
        · have HE : Hid (extend (cl0 ++ [.mk f t0 wi sub]) k (conflP ps os k) = (cl0 ++ [.mk f t0 wi sub]) ++ [.mk k k (conflP ps os k) []]) := by unfold Hid; simp [extend, hw]
          have hwd : (wi == conflP ps os k) = false := by simp [hw]
          clear hw
          gi_wp2_with fail
          have h3 := H3.out
          have hlen : n0 + 1 = (cl0 ++ [Claim.mk f t0 wi sub]).length := by
            obtain ⟨_, _, e, _⟩ := h3.post
            injection e with _ e _
          rw [hlen] at h3
          refine reg8_c W _ Vc Bn k _ h3 Hb.out Hcl2.out _ ?_ ?_ ?_
          · rintro ⟨_, _, h⟩; exact h
          · exact fun d _ _ _ _ h => by cases d <;> exact h
          rintro a' W7 V7 L7 hko7 hb7 h7
          exact Hfin.out _ _ _ _ _ _ hko7 hb7 h7 HE.out ⟨#[], []⟩
/-- THE SEARCH: what it computes is tryR's. -/
theorem try_c (Bs : Nat) (name : ByteArray) (mem F : Int) (A : Option Addr) (ps : List Part) (c : Nat) (hps : PT ps) : ∀ (r : Nat) (W : World) (Ao : Option Addr) (os : List Int) (co t : Nat), SB W Bs name mem F A ps c Ao os co t → OT W Ao os → os.length + r = ps.length → t ≤ 65536 →
    Calls Try.prog 37 #[.pointer (some ⟨Bs, 0, none⟩)] W (TryPost W Bs name mem F A ps c os t r)
  | 0, _, _, _, _, _, h, _, hn, _ => try_zero h hn hps.1
  | r + 1, W, Ao, os, co, t, h, hO, hn, ht => try_succ Bs name mem F A ps c hps r (try_c Bs name mem F A ps c hps r) W Ao os co t h hO hn ht
end Go.Proofs.Ytlmbffnmjfbglab
