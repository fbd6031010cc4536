/- A clone of ints; what the search promises. -/
import Derived.Test.YtlmbffnmjfbglabP7
import Derived.Test.YtlmbffnmjfbglabwL1
namespace Go.Proofs.Ytlmbffnmjfbglab
open Go.ChangeShapes Go.WideShapes Go.ChangeAt Go.RowKit

/-- a row of ints in a block from lo on. -/
def RdF (lo : Nat) (W : World) (A : Option Addr) (l : List Int) : Prop := RdInt W W.heap.size A l ∧ ∀ b o, A = some ⟨b, o, none⟩ → 0 < l.length → lo ≤ b
theorem RdF.mono {lo lo' : Nat} {W : World} {A : Option Addr} {l : List Int} (h : RdF lo W A l) (hl : lo' ≤ lo) : RdF lo' W A l := ⟨h.1, fun b o e hn => Nat.le_trans hl (h.2 b o e hn)⟩
theorem RdF.nil {lo : Nat} {W : World} {A : Option Addr} : RdF lo W A [] := ⟨fun hn => by simp at hn, fun _ _ _ hn => by simp at hn⟩
theorem cloneI_c (l : List Int) (A : Option Addr) (c : Nat) (w : World) (h : RdInt w w.heap.size A l) (hl : l.length ≤ 1000) :
    Calls Try.prog 41 #[.slice A l.length c] w fun e w' => ∃ A' c', e = .returned (.slice A' l.length c') ∧ RdF w.heap.size w' A' l ∧ Below w.heap.size w w' := by
  obtain ⟨i0, hi0, hz0, hz1, hz2⟩ := info_parts info3
  have hnil := fun (n c : Nat) W => Lib.run_eql_slice_nil (P := Try.prog) W 28 3 A n c 0 0 Try.underlying28
  have hread := (rdInt_reads h).alloc (Nat.le_refl _) (.cells #[] 3)
  have hone := ints_one l
  have Hread := Lib.hid hread
  have Hone := Lib.hid hone
  have Hh := Lib.hid h
  clear hread hone h
  cases A with
  | none =>
    have h0 : l = [] := by
      cases l with
      | nil => rfl
      | cons x r => obtain ⟨b, o, e, _⟩ := Hh.out (by simp); cases e
    subst h0
    simp only [List.length_nil] at hnil ⊢
    go_enter Try.func41, Try.ntmps41
    go_wp2
    go_ret
    exact ⟨none, 0, rfl, RdF.nil, Below.refl _ _⟩
  | some ad =>
    go_enter Try.func41, Try.ntmps41
    go_wp2_with (at_builtin; refine wpList_append_any _ rfl _ _ 28 rfl w.heap.size 3 i0 (.int .i64 0) 1 8 Try.underlying28 hi0 hz0 hz1 hz2 rfl (by decide) _ 0 [] rfl (World.ownsRow_made _ #[] 0 (Nat.le_refl _) (by simp [maxLen]) (by simp)) w.heap.size (some ad) l.length c (l.map (Value.int .i64)) rfl Hread.out Hone.out ?c3 ?c4 ?c5 ?_)
    case c3 => unfold maxLen; omega
    case c4 => omega
    case c5 => simp
    intro v' w2 hown2 hgrow hwhere
    have hB : Below w.heap.size w w2 := ((Below.refl _ w).alloc (Nat.le_refl _) _).grown hgrow (by simp) (fun k hk => by simp [Value.ownBlock] at hk; omega)
    try rw [List.nil_append, Nat.zero_add] at hown2
    have hfr : ∀ b, v'.ownBlock = some b → w.heap.size ≤ b := fun b hb => by
      rcases hown2.2 with ⟨rfl, _⟩ | ⟨g, cap, cur, rfl, hg, _⟩
      · simp [Value.ownBlock] at hb
      · simp only [Value.ownBlock] at hb
        injection hb with hb
        omega
    obtain ⟨A', c', rfl, hr⟩ := RdInt.of_own rfl hown2
    replace hr : RdF w.heap.size w2 A' l := ⟨hr, fun b o e _ => hfr b (by rw [e]; rfl)⟩
    clear hfr
    clear hgrow hwhere Hread Hone hown2
    go_wp2
    go_ret
    exact ⟨A', c', rfl, hr, hB⟩

/-- blocks of claims that a search has made: cells, from block B on. -/
def MadeQ (B : Nat) (W : World) (b : Nat) : Prop := B ≤ b ∧ ∃ o, W.heap[b]? = some o ∧ o.isCells = true
/-- the offsets lie in a block of ints. -/
def OT (W : World) (Ao : Option Addr) (os : List Int) : Prop := ∀ b o, Ao = some ⟨b, o, none⟩ → 0 < os.length → ∃ cur, W.heap[b]? = some (.cells cur 3)
/-- what the search does where r partitions have no offset yet. -/
structure TryPost (W : World) (Bs : Nat) (name : ByteArray) (mem F : Int) (A : Option Addr) (ps : List Part) (c : Nat) (os : List Int) (t r : Nat) (e : Ending) (W' : World) : Prop where
  grown : W.grownBy W' (some Bs)
  claims : ∀ l t', tryR ps r os t = .claims l t' → ∃ A' c', e = .returned (.slice A' l.length c') ∧ l.length ≤ c' ∧ c' ≤ maxLen ∧ RdCls W' (MadeQ W.heap.size W') A' l ∧ ∃ Ao co, SB W' Bs name mem F A ps c Ao os co t' ∧ OT W' Ao os
  stop : ∀ a er, tryR ps r os t = .stop a er → ∃ A' c', e = .panicked [{ v := .iface 63 (.agg #[.slice A' a.length c', .int .i64 er]), recovered := false }] ∧ RdF W.heap.size W' A' a
theorem TryPost.of_claims {W : World} {Bs : Nat} {name : ByteArray} {mem F : Int} {A : Option Addr} {ps : List Part} {c : Nat} {os : List Int} {t r : Nat} {W' : World} {l : List Claim} {t' : Nat} {A' : Option Addr} {c' : Nat} (hg : W.grownBy W' (some Bs)) (h : tryR ps r os t = .claims l t') (h1 : l.length ≤ c') (h2 : c' ≤ maxLen) (h3 : RdCls W' (MadeQ W.heap.size W') A' l) (h4 : ∃ Ao co, SB W' Bs name mem F A ps c Ao os co t' ∧ OT W' Ao os) :
    TryPost W Bs name mem F A ps c os t r (.returned (.slice A' l.length c')) W' :=
  ⟨hg, fun l2 t2 e => by rw [h] at e; injection e with e1 e2; subst e1 e2; exact ⟨A', c', rfl, h1, h2, h3, h4⟩, fun a er e => by rw [h] at e; cases e⟩
theorem TryPost.of_stop {W : World} {Bs : Nat} {name : ByteArray} {mem F : Int} {A : Option Addr} {ps : List Part} {c : Nat} {os : List Int} {t r : Nat} {W' : World} {a : List Int} {er : Int} {A' : Option Addr} {c' : Nat} (hg : W.grownBy W' (some Bs)) (h : tryR ps r os t = .stop a er) (h3 : RdF W.heap.size W' A' a) :
    TryPost W Bs name mem F A ps c os t r (.panicked [{ v := .iface 63 (.agg #[.slice A' a.length c', .int .i64 er]), recovered := false }]) W' :=
  ⟨hg, fun l2 t2 e => (by rw [h] at e; cases e), fun a2 er2 e => by rw [h] at e; injection e with e1 e2; subst e1 e2; exact ⟨A', c', rfl, h3⟩⟩
theorem below_grown {W W' : World} {row : Option Nat} (h : Below W.heap.size W W') : W.grownBy W' row := ⟨h.os, h.tape, h.output, h.size, fun k hk _ => h.block k hk⟩

set_option maxRecDepth 100000 in
set_option maxHeartbeats 1000000 in
/-- all partitions have an offset: found. -/
theorem try_zero {w : World} {Bs : Nat} {name : ByteArray} {mem F : Int} {A : Option Addr} {ps : List Part} {c : Nat} {Ao : Option Addr} {os : List Int} {co : Nat} {t : Nat} (h : SB w Bs name mem F A ps c Ao os co t) (hn : os.length = ps.length) (hps : ps.length ≤ 6) :
    Calls Try.prog 37 #[.pointer (some ⟨Bs, 0, none⟩)] w (TryPost w Bs name mem F A ps c os t 0) := by
  obtain ⟨_, _, _, c3, c4, _⟩ := h.cells
  have hz := h.blk.lt
  have hdec : ((os.length : Int) == (ps.length : Int)) = true := by simp [hn]
  have hB : Below w.heap.size w (((w.alloc (.cells #[.pointer (some ⟨Bs, 0, none⟩)] 65)).alloc (.cells #[.slice none 0 0] 29)).alloc (.cells #[.int .i64 os.length] 3)) := ((((Below.refl _ w).alloc (Nat.le_refl _) _).alloc (by simp) _).alloc (by simp; omega) _)
  have hb0 := ((Blk.new w 65 #[.pointer (some ⟨Bs, 0, none⟩)]).alloc (.cells #[.slice none 0 0] 29)).alloc (.cells #[.int .i64 os.length] 3)
  have hb2 := Blk.new ((w.alloc (.cells #[.pointer (some ⟨Bs, 0, none⟩)] 65)).alloc (.cells #[.slice none 0 0] 29)) 3 #[.int .i64 os.length]
  simp only [World.size_alloc] at hb2
  have Hn := Lib.hid hn
  clear hn
  go_enter Try.func37, Try.ntmps37
  go_wp2_with fail
  refine nameW fun W1 hW1 => ?_
  rw [← hW1] at hB hb0 hb2
  clear hW1
  have hS1 := h.next hB
  clear h c3 c4
  obtain ⟨_, _, _, c3, c4, _⟩ := hS1.cells
  have q0 : W1.cell? ⟨w.heap.size, 0, none⟩ = some (.pointer (some ⟨Bs, 0, none⟩)) := hb0.cell 0
  have q2 : W1.cell? ⟨w.heap.size + 1 + 1, 0, none⟩ = some (.int .i64 os.length) := hb2.cell 0
  go_quiet (fail)
  have hcl := cloneI_c os Ao co (W1.drewN nq) ((hS1.next (below_drewN (Below.refl _ _) nq)).of) (by rw [Hn.out]; omega)
  have hg : ∀ W2, Below (W1.drewN nq).heap.size (W1.drewN nq) W2 → w.grownBy W2 (some Bs) := fun W2 hb => below_grown ((below_drewN hB nq).trans (hb.mono (below_drewN hB nq).size))
  have Hg := Lib.hid hg
  have hzz : w.heap.size ≤ (W1.drewN nq).heap.size := (below_drewN hB nq).size
  have Hz := Lib.hid hzz
  clear hzz
  clear hg hS1 hB c3
  go_wp2_with fail
  refine hcl.mono ?_
  rintro e W2 ⟨A', c', rfl, hr, hb⟩
  have hG := Hg.out W2 hb
  clear hcl hb Hg c4 q0 q2 hb0 hb2
  go_wp2
  exact ⟨rfl, TryPost.of_stop hG rfl (hr.mono Hz.out)⟩
end Go.Proofs.Ytlmbffnmjfbglab
