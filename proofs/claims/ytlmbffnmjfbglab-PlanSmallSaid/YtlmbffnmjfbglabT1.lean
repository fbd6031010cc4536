/- The reference's search. -/
import Derived.Test.YtlmbffnmjfbglabH1
set_option linter.unusedSimpArgs false
set_option linter.unusedVariables false
namespace Go.Proofs.Ytlmbffnmjfbglab
open Go.ChangeShapes Go.WideShapes Go.ChangeAt Go.RowKit

/-- offsets that do not lie in the search's own block. -/
def RdI (W : World) (Bs : Nat) (A : Option Addr) (l : List Int) : Prop := 0 < l.length → ∃ b o, A = some ⟨b, o, none⟩ ∧ b < W.heap.size ∧ b ≠ Bs ∧ ∀ i (hi : i < l.length), W.cell? ⟨b, o + i, none⟩ = some (.int .i64 l[i])
theorem RdI.gr {W W' : World} {Bs : Nat} {A : Option Addr} {l : List Int} (h : RdI W Bs A l) (hg : Gr (fun b => b = Bs) W W') : RdI W' Bs A l := fun hn => by
  obtain ⟨b, o, e, hb, hne, hc⟩ := h hn
  exact ⟨b, o, e, Nat.lt_of_lt_of_le hb hg.size, hne, fun i hi => hg.cell (hc i hi) hne⟩
theorem RdI.rd {W : World} {Bs : Nat} {A : Option Addr} {l : List Int} (h : RdI W Bs A l) : RdInt W W.heap.size A l := fun hn => by
  obtain ⟨b, o, e, hb, _, hc⟩ := h hn
  exact ⟨b, o, e, hb, hc⟩
theorem RdPart.gr {W W' : World} {Bs : Nat} {A : Option Addr} {l : List Part} (h : RdPart W Bs A l) (hg : Gr (fun b => b = Bs) W W') : RdPart W' Bs A l := fun hn => by
  obtain ⟨b, o, e, hb, hc⟩ := h hn
  exact ⟨b, o, e, hb, fun i hi j v hv => hg.cell (hc i hi j v hv) (by simp; omega)⟩
/-- what a search keeps. -/
structure RT (W : World) (Bs : Nat) (name : ByteArray) (mem F : Int) (A : Option Addr) (ps : List Part) (c : Nat) (wr : World) (v : Value) (cl : List Claim) (tk : Int) (L : List CV) : Prop where
  blk : Blk wr Bs 81 #[.string name, .int .i64 mem, .int .i64 F, .slice A ps.length c, .int .i64 tk]
  gr : Gr (fun b => b = Bs) W wr
  cr : CR W.heap.size wr v cl L
  lt : Bs < W.heap.size
section
variable {W wr wr' w2 : World} {Bs : Nat} {name : ByteArray} {mem F : Int} {A : Option Addr} {ps : List Part} {c : Nat} {v : Value} {cl : List Claim} {tk tk' : Int} {L : List CV} {g cap : Nat}
theorem RT.next (h : RT W Bs name mem F A ps c wr v cl tk L) (hg : Gr (fun b => b = Bs) wr wr') (hb : Blk wr' Bs 81 #[.string name, .int .i64 mem, .int .i64 F, .slice A ps.length c, .int .i64 tk']) : RT W Bs name mem F A ps c wr' v cl tk' L :=
  ⟨hb, h.gr.trans hg, h.cr.old (hg.mono fun b _ e => by have := h.lt; have e : b = Bs := e; omega), h.lt⟩
theorem RT.below (h : RT W Bs name mem F A ps c wr v cl tk L) (hb : Below wr.heap.size wr wr') : RT W Bs name mem F A ps c wr' v cl tk L := h.next (Gr.of_below hb) (h.blk.below hb h.blk.lt)
theorem RT.set (h : RT W Bs name mem F A ps c wr v cl tk L) (t' : Int) : RT W Bs name mem F A ps c (wr.setCell ⟨Bs, 4, none⟩ (.int .i64 t')) v cl t' L := h.next (Gr.setCell _ _ _ rfl) (h.blk.set_ 4 _)
theorem RT.push (h : RT W Bs name mem F A ps c wr v cl tk L) (hgr : wr.grownBy w2 v.ownBlock) (x : CV) (y : Claim) (hown : w2.ownsRow W.heap.size 35 4 (.slice (some ⟨g, 0, none⟩) (cl.length + 1) cap) (cl.length + 1) (L.flatMap CV.cells ++ CV.cells x)) (hg : v.ownBlock = some g ∨ g = wr.heap.size)
    (hx : x.f = y.frm ∧ x.t = y.to ∧ x.w = y.wth ∧ x.s.n = y.sub.length ∧ x.s.n ≤ x.s.c ∧ x.s.c ≤ maxLen ∧ RdCls wr (fun b => W.heap.size ≤ b ∧ v.ownBlock ≠ some b ∧ ∃ o, wr.heap[b]? = some o ∧ o.isCells = true) x.s.a y.sub) :
    RT W Bs name mem F A ps c w2 (.slice (some ⟨g, 0, none⟩) (cl.length + 1) cap) (cl ++ [y]) tk (L ++ [x]) := by
  have hlt := h.lt
  refine ⟨h.blk.grown hgr (fun e => by have := (h.cr.own.lt _ e.symm).1; omega), ?_, h.cr.push hgr x y hown hg hx, hlt⟩
  have g1 : Gr (fun b => b = Bs ∨ W.heap.size ≤ b) wr w2 := Gr.of_grown hgr fun k e => .inr (h.cr.own.lt k e).1
  exact ((h.gr.mono (Y := fun b => b = Bs ∨ W.heap.size ≤ b) fun k _ x => .inl x).trans g1).mono fun k hk x => by
    rcases x with x | x
    · exact x
    · omega
theorem RT.setTo {cl0 : List Claim} {f t0 wi : Int} {sub : List Claim} (h : RT W Bs name mem F A ps c wr (.slice (some ⟨g, 0, none⟩) (cl0.length + 1) cap) (cl0 ++ [.mk f t0 wi sub]) tk L) (k : Int) :
    ∃ L', RT W Bs name mem F A ps c (wr.setCell ⟨g, cl0.length * 4 + 1, none⟩ (.int .i64 k)) (.slice (some ⟨g, 0, none⟩) (cl0.length + 1) cap) (cl0 ++ [.mk f k wi sub]) tk L' := by
  have hlt := h.lt
  have hll := h.cr.cvs.1
  have hi : cl0.length < L.length := by simp at hll; omega
  have hgB : W.heap.size ≤ g := (h.cr.own.lt g rfl).1
  have hfar : ∀ b, b ≠ g → (wr.setCell ⟨g, cl0.length * 4 + 1, none⟩ (.int .i64 k)).heap[b]? = wr.heap[b]? := fun b hb => Below.heap_setCell _ _ _ _ (by simpa using hb)
  obtain ⟨e1, e2, e3, e4, e5, e6, e7⟩ := h.cr.cvs.2 cl0.length hi (by simp)
  have hat : (cl0 ++ [Claim.mk f t0 wi sub])[cl0.length]'(by simp) = .mk f t0 wi sub := by simp
  rw [hat] at e1 e2 e3 e4 e7
  have hcv : CVs (wr.setCell ⟨g, cl0.length * 4 + 1, none⟩ (.int .i64 k)) (fun b => W.heap.size ≤ b ∧ (Value.slice (some ⟨g, 0, none⟩) (cl0.length + 1) cap).ownBlock ≠ some b ∧ ∃ o, (wr.setCell ⟨g, cl0.length * 4 + 1, none⟩ (.int .i64 k)).heap[b]? = some o ∧ o.isCells = true) L (cl0 ++ [.mk f t0 wi sub]) := h.cr.cvs.keep fun b ⟨q1, q2, o, q3, q4⟩ => by
    have e := hfar b (fun e => q2 (by rw [e]; rfl))
    exact ⟨fun _ => World.cell?_of_block e, q1, q2, o, e.trans q3, q4⟩
  have he7 : RdCls (wr.setCell ⟨g, cl0.length * 4 + 1, none⟩ (.int .i64 k)) (fun b => W.heap.size ≤ b ∧ (Value.slice (some ⟨g, 0, none⟩) (cl0.length + 1) cap).ownBlock ≠ some b ∧ ∃ o, (wr.setCell ⟨g, cl0.length * 4 + 1, none⟩ (.int .i64 k)).heap[b]? = some o ∧ o.isCells = true) L[cl0.length].s.a sub := by
    have := (hcv.2 cl0.length hi (by simp)).2.2.2.2.2.2
    rw [hat] at this
    exact this
  have hcv' := hcv.set cl0.length ⟨L[cl0.length].f, k, L[cl0.length].w, L[cl0.length].s⟩ (.mk f k wi sub) ⟨e1, rfl, e3, e4, e5, e6, he7⟩
  rw [show (cl0 ++ [Claim.mk f t0 wi sub]).set cl0.length (.mk f k wi sub) = cl0 ++ [.mk f k wi sub] by simp [List.set_append]] at hcv'
  have hown := h.cr.own
  have hl1 : (cl0 ++ [Claim.mk f t0 wi sub]).length = cl0.length + 1 := by simp
  rw [hl1] at hown
  have h1 := (hown.stored (cl0.length * 4 + 1) (.int .i64 k)).1
  rw [cells_set L cl0.length 1 hi (by omega) (.int .i64 k) ⟨L[cl0.length].f, k, L[cl0.length].w, L[cl0.length].s⟩ (by simp [CV.cells])] at h1
  refine ⟨_, h.blk.far (p := ⟨g, _, none⟩) (by simp; omega) _, ?_, ⟨by simpa using h1, hcv'⟩, hlt⟩
  have g1 : Gr (fun b => b = Bs ∨ W.heap.size ≤ b) wr (wr.setCell ⟨g, cl0.length * 4 + 1, none⟩ (.int .i64 k)) := Gr.setCell _ _ _ (.inr hgB)
  exact ((h.gr.mono (Y := fun b => b = Bs ∨ W.heap.size ≤ b) fun k _ x => .inl x).trans g1).mono fun k hk x => by
    rcases x with x | x
    · exact x
    · omega
end
/-- how the reference's search ends. -/
def RTPost (W : World) (Bs : Nat) (name : ByteArray) (mem F : Int) (A : Option Addr) (ps : List Part) (c r : Nat) (os : List Int) (t : Nat) (e : Ending) (W' : World) : Prop :=
  Gr (fun b => b = Bs) W W' ∧
  ((∃ l t', tryR ps r os t = .claims l t' ∧ t' ≤ 65536 ∧ Blk W' Bs 81 #[.string name, .int .i64 mem, .int .i64 F, .slice A ps.length c, .int .i64 (t' : Nat)] ∧ ∃ A' c', e = .returned (.tuple #[.slice none 0 0, .slice A' l.length c', .bool false]) ∧ l.length ≤ c' ∧ c' ≤ maxLen ∧ RdCls W' (MadeQ W.heap.size W') A' l) ∨
   (∃ a Aa ca t', tryR ps r os t = .stop a 0 ∧ t' ≤ 65536 ∧ Blk W' Bs 81 #[.string name, .int .i64 mem, .int .i64 F, .slice A ps.length c, .int .i64 (t' : Nat)] ∧ e = .returned (.tuple #[.slice Aa a.length ca, .slice none 0 0, .bool true]) ∧ RdInt W' W'.heap.size Aa a) ∨
   (tryR ps r os t = .stop [] 5 ∧ Blk W' Bs 81 #[.string name, .int .i64 mem, .int .i64 F, .slice A ps.length c, .int .i64 65537] ∧ e = .returned (.tuple #[.slice none 0 0, .slice none 0 0, .bool true])))

set_option maxRecDepth 100000 in
set_option maxHeartbeats 8000000 in
theorem rtry_c (name : ByteArray) (mem F : Int) (A : Option Addr) (ps : List Part) (c : Nat) (hT : timesV F ps = true) : ∀ (r : Nat) (os : List Int) (Ao : Option Addr) (co t : Nat) (W : World) (Bs : Nat), os.length + r = ps.length → t ≤ 65536 →
    Blk W Bs 81 #[.string name, .int .i64 mem, .int .i64 F, .slice A ps.length c, .int .i64 t] → RdPart W Bs A ps → RdI W Bs Ao os →
    Calls Try.prog 56 #[.pointer (some ⟨Bs, 0, none⟩), .slice Ao os.length co] W (RTPost W Bs name mem F A ps c r os t) := by
  intro r
  induction r with
  | zero =>
    intro os Ao co t W Bs hlen ht hb hp ho
    have q3 : W.cell? ⟨Bs, 3, none⟩ = some (.slice A ps.length c) := hb.cell 3
    have hd : ((os.length : Int) == (ps.length : Int)) = true := beq_iff_eq.2 (by omega)
    have HO := Lib.hid ho
    have HB := Lib.hid hb
    clear hb hp ho hlen
    go_enter Try.func56, Try.ntmps56
    go_wp2_with fail
    go_ret3
    exact ⟨Gr.refl _ _, .inr (.inl ⟨os, Ao, co, t, rfl, ht, HB.out, rfl, HO.out.rd⟩)⟩
  | succ r ih =>
    intro os Ao co t W Bs hlen ht hb hp ho
    obtain ⟨i0, hi0, hz0, hz1, hz2⟩ := info_parts info35
    obtain ⟨j0, hj0, hjz0, hjz1, hjz2⟩ := info_parts info3
    have h6 := (timesV_ok hT).few
    have q3 : W.cell? ⟨Bs, 3, none⟩ = some (.slice A ps.length c) := hb.cell 3
    have hn : os.length < ps.length := by omega
    have hd : ((os.length : Int) == (ps.length : Int)) = false := beq_eq_false_iff_ne.2 (by omega)
    have hno := nOff_eq hT os.length hn
    have hnb : nOff ps os.length ≤ 2000 := by
      have hp := (timesV_ok hT).per ps[os.length] (List.getElem_mem _)
      have hq := (timesV_ok hT).len ps[os.length] (List.getElem_mem _)
      have : lastP ps os.length = ps[os.length].period - ps[os.length].length := by simp [lastP, hn]
      omega
    have hRT0 : RT W Bs name mem F A ps c W (.slice none 0 0) [] (t : Int) [] := ⟨hb, Gr.refl _ _, CR.nil _ _, hb.lt⟩
    have IH := Lib.hid ih
    have HO := Lib.hid ho
    have HP := Lib.hid hp
    have HT := Lib.hid hT
    have HRT0 := Lib.hid hRT0
    have hBz := hb.lt
    clear ih hb hp ho hRT0 hT
    go_enter Try.func56, Try.ntmps56
    go_wp2_with fail
    clear q3
    go_loopw [8, 9] (fun v i wr => ∃ (k : Nat) (cl : List Claim) (tk : Nat) (L : List CV), k ≤ nOff ps os.length ∧ i = .int .i64 k ∧ tk ≤ 65536 ∧ cl.length ≤ k ∧ Hid (prefR ps (tryR ps r) os t k = .claims cl tk) ∧ Hid (RT W Bs name mem F A ps c wr v cl (tk : Int) L)) (fun _ i _ => nOff ps os.length + 1 - (intOf i).toNat)
    case atStart => exact ⟨0, [], t, [], Nat.zero_le _, rfl, ht, Nat.le_refl _, rfl, HRT0.out⟩
    case round =>
      clear HRT0
      obtain ⟨k, cl, tk, L, hk, rfl, htk, hclk, hpre, hRT⟩ := hrel
      have q0 : wr.cell? ⟨Bs, 0, none⟩ = some (.string name) := hRT.out.blk.cell 0
      have q1 : wr.cell? ⟨Bs, 1, none⟩ = some (.int .i64 mem) := hRT.out.blk.cell 1
      have q2 : wr.cell? ⟨Bs, 2, none⟩ = some (.int .i64 F) := hRT.out.blk.cell 2
      have q3 : wr.cell? ⟨Bs, 3, none⟩ = some (.slice A ps.length c) := hRT.out.blk.cell 3
      have hla := rlast_c name mem F ps A c os.length wr ((HP.out.gr hRT.out.gr).more (Nat.le_of_lt hRT.out.blk.lt)) hn HT.out
      have Hla := Lib.hid hla
      clear hla
      have hlp : lastP ps os.length = (nOff ps os.length : Int) - 1 := by omega
      rw [hlp] at Hla
      go_wp2_with fail
      refine Hla.out.mono ?_
      rintro e w2 ⟨rfl, hb2⟩
      have hRT2 := hRT.out.below hb2
      have HRT2 := Lib.hid hRT2
      clear Hla q0 q1 q2 q3 hb2 hRT hRT2 hlp
      by_cases hlt : k < nOff ps os.length
      case neg =>
        obtain rfl : k = nOff ps os.length := by omega
        have hdl : decide (((nOff ps os.length : Nat) : Int) ≤ ((nOff ps os.length : Nat) : Int) - 1) = false := decide_eq_false (by omega)
        obtain ⟨A', c', rfl, hc1, hc2, hrd⟩ := HRT2.out.cr.made
        have Hrd := Lib.hid hrd
        clear hrd
        generalize hNN : nOff ps os.length = NN at *
        have HNN := Lib.hid hNN
        clear hNN hno hlt
        go_wp2_with fail
        go_ret3
        exact ⟨HRT2.out.gr, .inl ⟨cl, tk, by rw [tryR, HNN.out]; exact hpre.out, htk, HRT2.out.blk, A', c', rfl, hc1, hc2, Hrd.out⟩⟩
      have hdl : decide ((k : Int) ≤ ((nOff ps os.length : Nat) : Int) - 1) = true := decide_eq_true (by omega)
      have hkN : k + 1 ≤ nOff ps os.length := hlt
      have hstop : ∀ a e, prefR ps (tryR ps r) os t (k + 1) = .stop a e → tryR ps (r + 1) os t = .stop a e := fun a e h => by rw [tryR]; exact prefR_stop ps (tryR ps r) os t _ _ hkN h
      have hpk : prefR ps (tryR ps r) os t (k + 1) = oneR ps (tryR ps r) os k cl tk := by rw [prefR, hpre.out]
      have Hstop := Lib.hid hstop
      have Hpk := Lib.hid hpk
      have p4 : w2.cell? ⟨Bs, 4, none⟩ = some (.int .i64 tk) := HRT2.out.blk.cell 4
      have f4 := HRT2.out.blk.frozen 4
      have hwt := IntWalk.i64_in ((tk : Int) + 1) (by omega)
      clear hstop hpk hno hpre
      go_upto_region 9 with (fail)
      have hRT3 := HRT2.out.set ((tk : Int) + 1)
      generalize w2.setCell ⟨Bs, 4, none⟩ (.int .i64 ((tk : Int) + 1)) = w3 at *
      have HRT3 := Lib.hid hRT3
      clear p4 f4 hwt HRT2 hRT3
      have p4 : w3.cell? ⟨Bs, 4, none⟩ = some (.int .i64 ((tk : Int) + 1)) := HRT3.out.blk.cell 4
      by_cases hmany : 65536 < tk + 1
      · have hdm : decide ((tk : Int) + 1 > 65536) = true := decide_eq_true (by omega)
        have hs := Hstop.out [] 5 (by rw [Hpk.out, oneR, if_pos hmany])
        have hbk := HRT3.out.blk
        rw [show (tk : Int) + 1 = 65537 by omega] at hbk
        have Hs := Lib.hid hs
        have Hbk := Lib.hid hbk
        clear hs hbk hmany Hstop Hpk
        go_wp2_with fail
        go_ret3
        exact ⟨HRT3.out.gr, .inr (.inr ⟨Hs.out, Hbk.out, rfl⟩)⟩
      have hdm : decide ((tk : Int) + 1 > 65536) = false := decide_eq_false (by omega)
      have hone1 : ∀ a e, conflP ps os k < 0 → tryR ps r (os ++ [(k : Int)]) (tk + 1) = .stop a e → prefR ps (tryR ps r) os t (k + 1) = .stop a e := fun a e h1 h2 => by rw [Hpk.out, oneR, if_neg hmany, if_pos h1, h2]
      have hone2 : ∀ sub t', conflP ps os k < 0 → tryR ps r (os ++ [(k : Int)]) (tk + 1) = .claims sub t' → prefR ps (tryR ps r) os t (k + 1) = .claims (cl ++ [.mk k k (-1) sub]) t' := fun sub t' h1 h2 => by rw [Hpk.out, oneR, if_neg hmany, if_pos h1, h2]
      have hone3 : ¬ conflP ps os k < 0 → prefR ps (tryR ps r) os t (k + 1) = .claims (extend cl k (conflP ps os k)) (tk + 1) := fun h1 => by rw [Hpk.out, oneR, if_neg hmany, if_neg h1]
      have q0 : w3.cell? ⟨Bs, 0, none⟩ = some (.string name) := HRT3.out.blk.cell 0
      have q1 : w3.cell? ⟨Bs, 1, none⟩ = some (.int .i64 mem) := HRT3.out.blk.cell 1
      have q2 : w3.cell? ⟨Bs, 2, none⟩ = some (.int .i64 F) := HRT3.out.blk.cell 2
      have q3 : w3.cell? ⟨Bs, 3, none⟩ = some (.slice A ps.length c) := HRT3.out.blk.cell 3
      have hcf := rconfl_c name mem F ps A c os Ao co (k : Int) w3 ((HP.out.gr HRT3.out.gr).more (Nat.le_of_lt HRT3.out.blk.lt)) (HO.out.gr HRT3.out.gr).rd hn h6
      have Hcf := Lib.hid hcf
      have Hone1 := Lib.hid hone1
      have Hone2 := Lib.hid hone2
      have Hone3 := Lib.hid hone3
      clear hcf hone1 hone2 hone3
      obtain ⟨y, hy⟩ : ∃ y, y = conflP ps os (k : Int) := ⟨_, rfl⟩
      rw [← hy] at Hcf Hone1 Hone2 Hone3
      clear hy
      go_wp2_with fail
      refine Hcf.out.mono ?_
      rintro e w4 ⟨rfl, hb4⟩
      have hRT4 := HRT3.out.below hb4
      have HRT4 := Lib.hid hRT4
      clear Hcf q0 q1 q2 q3 p4 hb4 HRT3 hRT4
      by_cases hy0 : y < 0
      · have hdy : decide (y < 0) = true := decide_eq_true hy0
        obtain ⟨W5, hW5⟩ : ∃ W5, W5 = w4.alloc (.cells #[] 3) := ⟨_, rfl⟩
        have hB45 : Below w4.heap.size w4 W5 := by rw [hW5]; exact (Below.refl _ _).alloc (Nat.le_refl _) _
        have hown5 : W5.ownsRow w4.heap.size 3 1 (.slice (some ⟨w4.heap.size, 0, none⟩) 0 0) 0 [] := by rw [hW5]; exact World.ownsRow_made w4 #[] 0 (Nat.le_refl _) (by simp [maxLen]) (by simp)
        have hrd5 := rdInt_reads (((HO.out.gr HRT4.out.gr).rd).below hB45)
        have hs5 : w4.heap.size ≤ W5.heap.size := hB45.size
        have HW5 := Lib.hid hW5
        have Hown5 := Lib.hid hown5
        have Hrd5 := Lib.hid hrd5
        have HB45 := Lib.hid hB45
        clear hW5 hown5 hrd5 hB45
        have hos6 : os.length ≤ 6 := by omega
        go_wp2_with (at_builtin; rw [← HW5.out]; refine wpList_append_any _ rfl _ _ 28 rfl w4.heap.size 3 j0 (.int .i64 0) 1 8 Try.underlying28 hj0 hjz0 hjz1 hjz2 rfl (by decide) _ 0 [] rfl Hown5.out W5.heap.size Ao os.length co (os.map (Value.int .i64)) rfl Hrd5.out (ints_one os) (by unfold maxLen; omega) (by omega) hs5 ?_)
        intro v6 w6 hown6 hgr6 hat6
        have hB46 : Below w4.heap.size w4 w6 := HB45.out.grown hgr6 HB45.out.size (fun k hk => by simp [Value.ownBlock] at hk; omega)
        have hown6' : w6.ownsRow w4.heap.size 3 1 v6 os.length (os.map (Value.int .i64)) := by simpa using hown6
        obtain ⟨W7, hW7⟩ : ∃ W7, W7 = w6.alloc (.cells #[.int .i64 k] 3) := ⟨_, rfl⟩
        have hB67 : Below w6.heap.size w6 W7 := by rw [hW7]; exact (Below.refl _ _).alloc (Nat.le_refl _) _
        have hnew : Blk W7 w6.heap.size 3 #[.int .i64 k] := by rw [hW7]; exact Blk.new w6 3 _
        have hown7 := hown6'.kept (below_grown (row := none) hB67) (by cases v6.ownBlock <;> simp)
        have hB47 := hB46.trans (hB67.mono hB46.size)
        have hs7 : w4.heap.size ≤ W7.heap.size := hB47.size
        have HW7 := Lib.hid hW7
        have Hnew := Lib.hid hnew
        have Hown7 := Lib.hid hown7
        have HB47 := Lib.hid hB47
        clear hown6 hown6' hgr6 hat6 hB46 hB67 hnew hown7 hB47 hW7 Hown5 Hrd5 HB45 HW5 hs5
        go_wp2_with (at_builtin; rw [← HW7.out]; refine wpList_append_lies _ rfl _ _ 28 rfl w4.heap.size 3 j0 _ 1 8 Try.underlying28 hj0 hjz0 hjz1 hjz2 rfl (by decide) v6 os.length _ rfl Hown7.out ⟨w6.heap.size, 0, none⟩ 1 1 [.int .i64 k] rfl rfl (World.news_of_block Hnew.out) (by simp [Value.oneCell']) (by omega) (by unfold maxLen; omega) (by omega) hs7 _ rfl ?_)
        intro g cap w8 hown8 hgr8 hg8 hgl8
        have hB48 : Below w4.heap.size w4 w8 := HB47.out.grown hgr8 HB47.out.size (fun k hk => (Hown7.out.lt k hk).1)
        have hgB : w4.heap.size ≤ g := (hown8.lt g rfl).1
        have hRT8 := HRT4.out.below hB48
        have hri : RdI w8 Bs (some ⟨g, 0, none⟩) (os ++ [(k : Int)]) := by
          obtain ⟨A2, c2, e, hr⟩ := RdInt.of_own (n := os.length + 1) (l := os ++ [(k : Int)]) (by simp) (by simpa using hown8)
          injection e with e
          subst e
          intro hn
          obtain ⟨b, o, e, hb, hc⟩ := hr hn
          injection e with e
          injection e with e1 e2
          subst e1 e2
          exact ⟨g, 0, rfl, hb, by have := HRT4.out.blk.lt; omega, hc⟩
        have hcall := IH.out (os ++ [(k : Int)]) (some ⟨g, 0, none⟩) cap (tk + 1) w8 Bs (by simp; omega) (by omega) (by have := hRT8.blk; rwa [show ((tk + 1 : Nat) : Int) = (tk : Int) + 1 by omega]) (HP.out.gr hRT8.gr) hri
        rw [show (os ++ [(k : Int)]).length = os.length + 1 by simp] at hcall
        have Hcall := Lib.hid hcall
        have HRT8 := Lib.hid hRT8
        clear hcall hri hown8 hgr8 hg8 hgl8 hRT8 hB48 HB47 Hown7 Hnew HW7 hs7 HRT4 hgB
        go_wp2_with fail
        refine Hcall.out.mono ?_
        rintro e w9 ⟨hgr9, ⟨sub, t', htr, ht', hbk9, A', c', rfl, hc1, hc2, hrd9⟩ | ⟨a, Aa, ca, t', htr, ht', hbk9, rfl, hra⟩ | ⟨htr, hbk9, rfl⟩⟩
        · have hpn := Hone2.out sub t' hy0 htr
          have hRT9 := HRT8.out.next hgr9 hbk9
          have hu8 : ∀ b, u8.ownBlock = some b → b < w8.heap.size := fun b hb => (HRT8.out.cr.own.lt b hb).2
          have hz8 : W.heap.size ≤ w8.heap.size := HRT8.out.gr.size
          have HRT9 := Lib.hid hRT9
          have Hpn := Lib.hid hpn
          have Hrd9 := Lib.hid hrd9
          clear hpn hRT9 hgr9 hbk9 hrd9 htr Hone1 Hone2 Hone3 Hstop Hpk HRT8 Hcall
          obtain ⟨X, hX⟩ : ∃ X, X = w9.alloc (.cells #[.int .i64 k, .int .i64 k, .int .i64 (-1), .slice A' sub.length c'] 35) := ⟨_, rfl⟩
          have hBX : Below w9.heap.size w9 X := by rw [hX]; exact (Below.refl _ _).alloc (Nat.le_refl _) _
          have hbT : Blk X w9.heap.size 35 #[.int .i64 k, .int .i64 k, .int .i64 (-1), .slice A' sub.length c'] := by rw [hX]; exact Blk.new w9 35 _
          have hRTX := HRT9.out.below hBX
          have hrX : (k : Int) = (Claim.mk k k (-1) sub).frm ∧ (k : Int) = (Claim.mk k k (-1) sub).to ∧ (-1 : Int) = (Claim.mk k k (-1) sub).wth ∧ sub.length = (Claim.mk k k (-1) sub).sub.length ∧ sub.length ≤ c' ∧ c' ≤ maxLen ∧ RdCls X (fun b => W.heap.size ≤ b ∧ u8.ownBlock ≠ some b ∧ ∃ o, X.heap[b]? = some o ∧ o.isCells = true) A' (Claim.mk k k (-1) sub).sub := ⟨rfl, rfl, rfl, rfl, hc1, hc2, Hrd9.out.keep fun b ⟨q1, o, q3, q4⟩ => by
            have e := hBX.block b (Array.getElem?_eq_some_iff.1 q3).1
            exact ⟨fun _ => World.cell?_of_block e, by omega, fun e2 => by have := hu8 b e2; omega, o, e.trans q3, q4⟩⟩
          have hsX : W.heap.size ≤ X.heap.size := hRTX.gr.size
          have HRTX := Lib.hid hRTX
          have HbT := Lib.hid hbT
          have HrX := Lib.hid hrX
          have HX := Lib.hid hX
          clear hRTX hbT hrX hX hBX hu8 hz8 Hrd9 HRT9
          go_wp2_with (at_builtin; rw [← HX.out]; refine wpList_append_lies _ rfl _ _ 29 rfl W.heap.size 35 i0 _ 4 48 Try.underlying29 hi0 hz0 hz1 hz2 rfl (by decide) _ (cl).length _ rfl HRTX.out.cr.own ⟨w9.heap.size, 0, none⟩ 1 1 (CV.cells ⟨k, k, (-1), ⟨A', sub.length, c'⟩⟩) rfl rfl (World.news_of_block HbT.out) (by simp [CV.cells, Value.oneCell']) (by omega) (by unfold maxLen; (first | omega | (simp; done) | (simp; omega))) (by (first | omega | (simp; done) | (simp; omega))) hsX _ rfl ?_)
          intro g9 cap9 w11 hown11 hgr11 hg11 hgl11
          have hpush := HRTX.out.push hgr11 ⟨k, k, (-1), ⟨A', sub.length, c'⟩⟩ (Claim.mk k k (-1) sub) hown11 hg11 HrX.out
          have HP9 := Lib.hid hpush
          clear hpush hown11 hgr11 hg11 hgl11 HRTX HbT HrX HX
          go_wp2_with fail
          go_roundw
          case rel => exact ⟨k + 1, (cl) ++ [(Claim.mk k k (-1) sub)], t', _, hkN, by go_num, ht', by (first | omega | (simp; done) | (simp; omega)), Lib.hid Hpn.out, HP9.out⟩
          case measure => simp [intOf]; omega
        · have hs := Hstop.out a 0 (Hone1.out a 0 hy0 htr)
          have hgr := HRT8.out.gr.trans hgr9
          have Hs := Lib.hid hs
          have Hgr := Lib.hid hgr
          have Hbk := Lib.hid hbk9
          have Hra := Lib.hid hra
          clear hs hgr hbk9 hra htr hgr9 Hone1 Hone2 Hone3 Hstop Hpk HRT8 Hcall
          go_wp2_with fail
          go_ret3
          exact ⟨Hgr.out, .inr (.inl ⟨a, Aa, ca, t', Hs.out, ht', Hbk.out, rfl, Hra.out⟩)⟩
        · have hs := Hstop.out [] 5 (Hone1.out [] 5 hy0 htr)
          have hgr := HRT8.out.gr.trans hgr9
          have Hs := Lib.hid hs
          have Hgr := Lib.hid hgr
          have Hbk := Lib.hid hbk9
          clear hs hgr hbk9 htr hgr9 Hone1 Hone2 Hone3 Hstop Hpk HRT8 Hcall
          go_wp2_with fail
          go_ret3
          exact ⟨Hgr.out, .inr (.inr ⟨Hs.out, Hbk.out, rfl⟩)⟩
      · have hdy : decide (y < 0) = false := decide_eq_false hy0
        have hpn := Hone3.out (by omega)
        have Hpn := Lib.hid hpn
        have hwl := IntWalk.i64_in ((cl.length : Int) - 1) (by omega)
        clear hpn Hpk Hone1 Hone2 Hone3 Hstop
        rcases List.eq_nil_or_concat cl with rfl | ⟨cl0, ⟨f, t0, wi, sub⟩, rfl⟩
        · have hd14 : decide (((([] : List Claim).length : Nat) : Int) - 1 ≥ 0) = false := by decide
          obtain ⟨A', c', rfl, _⟩ := HRT4.out.cr.made
          obtain ⟨X, hX⟩ : ∃ X, X = w4.alloc (.cells #[.int .i64 k, .int .i64 k, .int .i64 y, .slice none 0 0] 35) := ⟨_, rfl⟩
          have hBX : Below w4.heap.size w4 X := by rw [hX]; exact (Below.refl _ _).alloc (Nat.le_refl _) _
          have hbT : Blk X w4.heap.size 35 #[.int .i64 k, .int .i64 k, .int .i64 y, .slice none 0 0] := by rw [hX]; exact Blk.new w4 35 _
          have hRTX := HRT4.out.below hBX
          have hrX : (k : Int) = (Claim.mk k k y []).frm ∧ (k : Int) = (Claim.mk k k y []).to ∧ y = (Claim.mk k k y []).wth ∧ 0 = (Claim.mk k k y []).sub.length ∧ 0 ≤ 0 ∧ 0 ≤ maxLen ∧ RdCls X (fun b => W.heap.size ≤ b ∧ (Value.slice A' ([] : List Claim).length c').ownBlock ≠ some b ∧ ∃ o, X.heap[b]? = some o ∧ o.isCells = true) none (Claim.mk k k y []).sub := ⟨rfl, rfl, rfl, rfl, Nat.le_refl _, by simp [maxLen], fun h => by simp [Claim.sub] at h⟩
          have hsX : W.heap.size ≤ X.heap.size := hRTX.gr.size
          have HRTX := Lib.hid hRTX
          have HbT := Lib.hid hbT
          have HrX := Lib.hid hrX
          have HX := Lib.hid hX
          clear hRTX hbT hrX hX hBX HRT4
          go_wp2_with (at_builtin; rw [← HX.out]; refine wpList_append_lies _ rfl _ _ 29 rfl W.heap.size 35 i0 _ 4 48 Try.underlying29 hi0 hz0 hz1 hz2 rfl (by decide) _ (([] : List Claim)).length _ rfl HRTX.out.cr.own ⟨w4.heap.size, 0, none⟩ 1 1 (CV.cells ⟨k, k, y, ⟨none, 0, 0⟩⟩) rfl rfl (World.news_of_block HbT.out) (by simp [CV.cells, Value.oneCell']) (by omega) (by unfold maxLen; (first | omega | (simp; done) | (simp; omega))) (by (first | omega | (simp; done) | (simp; omega))) hsX _ rfl ?_)
          intro g9 cap9 w11 hown11 hgr11 hg11 hgl11
          have hpush := HRTX.out.push hgr11 ⟨k, k, y, ⟨none, 0, 0⟩⟩ (Claim.mk k k y []) hown11 hg11 HrX.out
          have HP9 := Lib.hid hpush
          clear hpush hown11 hgr11 hg11 hgl11 HRTX HbT HrX HX
          go_wp2_with fail
          go_roundw
          case rel => exact ⟨k + 1, (([] : List Claim)) ++ [(Claim.mk k k y [])], (tk + 1), _, hkN, by go_num, by omega, by (first | omega | (simp; done) | (simp; omega)), Lib.hid Hpn.out, HP9.out⟩
          case measure => simp [intOf]; omega

        · rw [List.concat_eq_append] at *
          obtain ⟨g, cap, cur, rfl, hgB, hgk, hcp, hcm, _⟩ := own_form HRT4.out.cr.own (by simp)
          have hLl : cl0.length < L.length := by have := HRT4.out.cr.cvs.1; simp at this; omega
          have hw9 : L[cl0.length].w = wi := by
            have := (HRT4.out.cr.cvs.2 cl0.length hLl (by simp)).2.2.1
            rw [this]; simp [Claim.wth]
          have c2 : w4.cell? ⟨g, cl0.length * 4 + 2, none⟩ = some (.int .i64 wi) := by
            have h1 := HRT4.out.cr.own.cells (g := g) rfl (cl0.length * 4 + 2) (.int .i64 wi) (by have := (CV.get L cl0.length hLl).2.2.1; rw [hw9] at this; exact this)
            rw [add_none] at h1
            simpa using h1
          have hll : (((cl0 ++ [Claim.mk f t0 wi sub]).length : Nat) : Int) = (cl0.length : Int) + 1 := by simp
          have hq0 : (0 : Int) ≤ (cl0.length : Int) := by omega
          have hq1 : (cl0.length : Int) < (cl0.length : Int) + 1 := by omega
          have hdg : decide ((cl0.length : Int) ≥ 0) = true := decide_eq_true hq0
          have hwl2 := IntWalk.i64_in ((cl0.length : Int) + 1 - 1) (by omega)
          rw [show (cl0.length : Int) + 1 - 1 = (cl0.length : Int) by omega] at hwl2
          rw [hll] at hwl
          rw [show (cl0.length : Int) + 1 - 1 = (cl0.length : Int) by omega] at hwl
          have hl1 : (cl0 ++ [Claim.mk f t0 wi sub]).length = cl0.length + 1 := by simp
          have hcl0 : cl0.length ≤ 2000 := by have := hclk; rw [hl1] at this; omega
          by_cases hwy : wi = y
          · subst hwy
            have hde : (wi == wi) = true := by simp
            have hex : extend (cl0 ++ [Claim.mk f t0 wi sub]) k wi = cl0 ++ [Claim.mk f k wi sub] := by simp [extend]
            have hpn := Hpn.out
            rw [hex] at hpn
            have f1 := hgk.frozen (cl0.length * 4 + 1)
            obtain ⟨v1, c1⟩ : ∃ v, w4.cell? ⟨g, cl0.length * 4 + 1, none⟩ = some v := ⟨_, HRT4.out.cr.own.cells (g := g) rfl (cl0.length * 4 + 1) (.int .i64 L[cl0.length].t) (CV.get L cl0.length hLl).2.1 |> fun h => by rw [add_none] at h; simpa using h⟩
            have hRT5 := HRT4.out
            rw [hl1] at hRT5
            obtain ⟨L5, hRT5⟩ := hRT5.setTo (k : Int)
            have HRT5 := Lib.hid hRT5
            have Hpn2 := Lib.hid hpn
            have Hl1 := Lib.hid hl1
            clear hRT5 hpn hex hgk HRT4 Hpn hll hw9
            rw [hl1]
            clear hl1
            have hi1b : (cl0.length : Int) < ((cl0.length + 1 : Nat) : Int) := by omega
            go_wp2_with fail
            go_roundw
            case rel => exact ⟨k + 1, cl0 ++ [Claim.mk f k wi sub], tk + 1, L5, hkN, by go_num, by omega, by simp at hclk; simp; omega, Lib.hid Hpn2.out, HRT5.out⟩
            case measure => simp [intOf]; omega
          · have hde : (wi == y) = false := by simpa using hwy
            have HE : Hid (extend (cl0 ++ [Claim.mk f t0 wi sub]) k y = (cl0 ++ [Claim.mk f t0 wi sub]) ++ [Claim.mk k k y []]) := Lib.hid (by simp [extend, hwy])
            have Hl1 := Lib.hid hl1
            clear hgk hw9 hwy hl1
            obtain ⟨X, hX⟩ : ∃ X, X = w4.alloc (.cells #[.int .i64 k, .int .i64 k, .int .i64 y, .slice none 0 0] 35) := ⟨_, rfl⟩
            have hBX : Below w4.heap.size w4 X := by rw [hX]; exact (Below.refl _ _).alloc (Nat.le_refl _) _
            have hbT : Blk X w4.heap.size 35 #[.int .i64 k, .int .i64 k, .int .i64 y, .slice none 0 0] := by rw [hX]; exact Blk.new w4 35 _
            have hRTX := HRT4.out.below hBX
            have hrX : (k : Int) = (Claim.mk k k y []).frm ∧ (k : Int) = (Claim.mk k k y []).to ∧ y = (Claim.mk k k y []).wth ∧ 0 = (Claim.mk k k y []).sub.length ∧ 0 ≤ 0 ∧ 0 ≤ maxLen ∧ RdCls X (fun b => W.heap.size ≤ b ∧ (Value.slice (some ⟨g, 0, none⟩) (cl0 ++ [Claim.mk f t0 wi sub]).length cap).ownBlock ≠ some b ∧ ∃ o, X.heap[b]? = some o ∧ o.isCells = true) none (Claim.mk k k y []).sub := ⟨rfl, rfl, rfl, rfl, Nat.le_refl _, by simp [maxLen], fun h => by simp [Claim.sub] at h⟩
            have hsX : W.heap.size ≤ X.heap.size := hRTX.gr.size
            have HRTX := Lib.hid hRTX
            have HbT := Lib.hid hbT
            have HrX := Lib.hid hrX
            have HX := Lib.hid hX
            clear hRTX hbT hrX hX hBX HRT4
            go_wp2_with (at_builtin; rw [← HX.out]; refine wpList_append_lies _ rfl _ _ 29 rfl W.heap.size 35 i0 _ 4 48 Try.underlying29 hi0 hz0 hz1 hz2 rfl (by decide) _ (cl0.length + 1) _ rfl (by have h := HRTX.out.cr.own; rw [Hl1.out] at h; exact h) ⟨w4.heap.size, 0, none⟩ 1 1 (CV.cells ⟨k, k, y, ⟨none, 0, 0⟩⟩) rfl rfl (World.news_of_block HbT.out) (by simp [CV.cells, Value.oneCell']) (by omega) (by unfold maxLen; (first | omega | (simp; done) | (simp; omega) | (simp at hclk; simp; omega))) (by (first | omega | (simp; done) | (simp; omega) | (simp at hclk; simp; omega))) hsX _ rfl ?_)
            intro g9 cap9 w11 hown11 hgr11 hg11 hgl11
            have hpush := HRTX.out.push hgr11 ⟨k, k, y, ⟨none, 0, 0⟩⟩ (Claim.mk k k y []) (by rw [Hl1.out]; exact hown11) hg11 HrX.out
            rw [Hl1.out] at hpush
            have HP9 := Lib.hid hpush
            clear hpush hown11 hgr11 hg11 hgl11 HRTX HbT HrX HX
            go_wp2_with fail
            go_roundw
            case rel => exact ⟨k + 1, ((cl0 ++ [Claim.mk f t0 wi sub])) ++ [(Claim.mk k k y [])], (tk + 1), _, hkN, by go_num, by omega, by (first | omega | (simp; done) | (simp; omega) | (simp at hclk; simp; omega)), Lib.hid (by rw [← HE.out]; exact Hpn.out), HP9.out⟩
            case measure => simp [intOf]; omega
end Go.Proofs.Ytlmbffnmjfbglab
