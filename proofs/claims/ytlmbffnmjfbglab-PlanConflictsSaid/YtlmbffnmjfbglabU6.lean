/- A certificate: right, Check. -/
import Derived.Test.YtlmbffnmjfbglabU5
import Derived.Test.YtlmbffnmjfbglabU2
import Derived.Test.YtlmbffnmjfbglabU1
set_option linter.unusedSimpArgs false
set_option linter.unusedVariables false
namespace Go.Proofs.Ytlmbffnmjfbglab
open Go.ChangeShapes Go.WideShapes Go.ChangeAt Go.RowKit

theorem and_no1 {p : Prop} [Decidable p] {b : Bool} (h : ¬ p) : (decide p && b) = false := by simp [h]
theorem and_no2 {a p : Prop} [Decidable a] [Decidable p] {b : Bool} (h : ¬ p) : (decide a && (decide p && b)) = false := by simp [h]
theorem and_no3 {a c p : Prop} [Decidable a] [Decidable c] [Decidable p] {b : Bool} (h : ¬ p) : (decide a && (decide c && (decide p && b))) = false := by simp [h]
theorem and_yes {a c p : Prop} [Decidable a] [Decidable c] [Decidable p] {b : Bool} (h1 : a) (h2 : c) (h3 : p) : (decide a && (decide c && (decide p && b))) = b := by simp [h1, h2, h3]

set_option maxRecDepth 100000 in
set_option maxHeartbeats 4000000 in
theorem right_c (Bs : Nat) (name : ByteArray) (mem F : Int) (A : Option Addr) (ps : List Part) (c B0 : Nat) (hPT : PT ps) : ∀ (N : Nat) (l : List Claim), sizeL l < N → ∀ (W : World) (V : Value) (os : List Int) (Ac : Option Addr) (cc : Nat), SO W Bs name mem F A ps c B0 V os → os.length ≤ ps.length → RdCls W (fun b => b < B0) Ac l → l.length ≤ 9223372036854775807 →
    Calls Try.prog 39 #[.pointer (some ⟨Bs, 0, none⟩), .slice Ac l.length cc] W (RPost W V Bs name mem F A ps c B0 os (rightP ps os l)) := by
  intro N
  induction N with
  | zero => intro l hl; omega
  | succ N ih =>
    intro l hN W V os Ac cc h hn hrd hlen
    obtain ⟨Ao, co, rfl, hSB⟩ := h.form
    obtain ⟨_, _, _, q3, q4, _⟩ := hSB.cells
    have IH := Lib.hid ih
    clear ih
    have hBs := h.blk.lt
    by_cases hlt : os.length < ps.length
    · have hd : decide ((os.length : Int) ≥ (ps.length : Int)) = false := decide_eq_false (by omega)
      have hd0 : ¬ ps.length ≤ os.length := by omega
      have hrp : rightP ps os l = goP ps os 0 l := by simp [rightP, hlt]
      obtain ⟨p, hp⟩ : ∃ p, p = ps[os.length] := ⟨_, rfl⟩
      obtain ⟨hp1, hp2, hp3⟩ := hPT.2 p (hp ▸ List.getElem_mem _)
      have hlp : lastP ps os.length = p.period - p.length := by simp [lastP, hlt, hp]
      have hla : ∀ W' V', SO W' Bs name mem F A ps c B0 V' os → Calls Try.prog 63 #[.pointer (some ⟨Bs, 0, none⟩), .int .i64 os.length] W' fun e w' => e = .returned (.int .i64 (lastP ps os.length)) ∧ ∃ n, w' = W'.drewN n := fun W' V' hS => by
        obtain ⟨A2, c2, _, hSB2⟩ := hS.form
        have := last_c hSB2 os.length hlt (by rw [← hp]; omega) (by rw [← hp]; omega) (by rw [← hp]; omega) (by rw [← hp]; omega)
        rw [← hp, ← hlp] at this
        exact this
      have hla0 : 0 ≤ lastP ps os.length ∧ lastP ps os.length ≤ 2000 := by rw [hlp]; omega
      have Hla := Lib.hid hla
      have Hrp := Lib.hid hrp
      have H := Lib.hid h
      have HN := Lib.hid hN
      have Hrd := Lib.hid hrd
      have Hlt := Lib.hid hlt
      clear hla hrp hlp hp1 hp2 hp3 hp hSB h hrd hN
      generalize hLA : lastP ps os.length = la at *
      have HLA := Lib.hid hLA
      clear hLA
      go_enter Try.func39, Try.ntmps39
      go_wp2_with fail
      go_loopw [6, 24] (fun nx i wr => ∃ (k : Nat) (x : Int) (V' : Value), k ≤ l.length ∧ i = .int .i64 k ∧ nx = .int .i64 x ∧ 0 ≤ x ∧ x ≤ 2001 ∧ Hid (RG Bs W (.slice Ao os.length co) wr V') ∧ Hid (SO wr Bs name mem F A ps c B0 V' os) ∧ Hid (goP ps os 0 l = goP ps os x (l.drop k))) (fun _ i _ => l.length - (intOf i).toNat)
      case atStart => exact ⟨0, 0, _, Nat.zero_le _, rfl, rfl, Int.le_refl _, by omega, .of_below (Below.refl _ _), H.out, rfl⟩
      case round =>
        obtain ⟨k, x, V', hk, rfl, rfl, hx0, hx1, hRG, hSO, hgo⟩ := hrel
        by_cases hkl : k < l.length
        · have hold := H.out.old hRG.out
          obtain ⟨b, o, rfl, hb, hrl⟩ := (Hrd.out.keep fun b hb => ⟨fun _ => World.cell?_of_block (hold.block b hb), hb⟩ : RdCls wr (fun b => b < B0) Ac l) (by omega)
          obtain ⟨c0, c1, c2, As, cs, c3, hs1, hs2, hsr⟩ := (RdL.at_ l o k hkl hrl).open'
          have hi0 : (0 : Int) ≤ (k : Int) := by omega
          have hi1 : (k : Int) < (l.length : Int) := by omega
          have hsz := sizeL_mem hkl
          rw [Claim.subN_sub] at hsz
          have hdr : l.drop k = l[k] :: l.drop (k + 1) := List.drop_eq_getElem_cons hkl
          have hgo2 : goP ps os 0 l = (decide (l[k].frm = x) && (decide (l[k].frm ≤ l[k].to) && (decide (l[k].to ≤ la) && (oneP ps os l[k] && goP ps os (l[k].to + 1) (l.drop (k + 1)))))) := by
            rw [hgo.out, hdr, goP, HLA.out]
          have hsub : sizeL l[k].sub < N := by have := HN.out; omega
          cases hcx : l[k] with
          | mk f t wi sub =>
          rw [hcx] at c0 c1 c2 c3 hs1 hsr hgo2 hsub
          simp only [Claim.frm, Claim.to, Claim.wth, Claim.sub] at c0 c1 c2 c3 hs1 hs2 hsr hgo2 hsub
          clear hdr hgo hsz hrl hold hcx hb
          go_wp2_with fail
          have hBl : Below wr.heap.size wr (wr.alloc (.cells #[.int .i64 f, .int .i64 t, .int .i64 wi, .slice As sub.length cs] 35)) := (Below.refl _ _).alloc (Nat.le_refl _) _
          have hbx : Blk (wr.alloc (.cells #[.int .i64 f, .int .i64 t, .int .i64 wi, .slice As sub.length cs] 35)) wr.heap.size 35 #[.int .i64 f, .int .i64 t, .int .i64 wi, .slice As sub.length cs] := Blk.new wr 35 _
          generalize wr.alloc (.cells #[.int .i64 f, .int .i64 t, .int .i64 wi, .slice As sub.length cs] 35) = W1 at *
          refine wp_region_S (fun W' => W'.cell? ⟨wr.heap.size, 0, none⟩ = some (.int .i64 f) ∧ W'.cell? ⟨wr.heap.size, 1, none⟩ = some (.int .i64 t) ∧ W'.cell? ⟨wr.heap.size, 2, none⟩ = some (.int .i64 wi) ∧ W'.cell? ⟨wr.heap.size, 3, none⟩ = some (.slice As sub.length cs)) 22 (by kernel_rfl) ⟨hbx.cell 0, hbx.cell 1, hbx.cell 2, hbx.cell 3⟩ (fun hHeld => ?_)
          replace hBl := hBl.drew
          replace hbx := hbx.drew
          generalize W1.drew = W4 at *
          have hRG4 : RG Bs W (.slice Ao os.length co) W4 V' := hRG.out.trans (.of_below hBl)
          have hSO4 := hSO.out.next hBl
          have hVX : ∀ b, V'.ownBlock = some b → b < wr.heap.size := fun b hb => (hSO.out.own.lt b hb).2
          have hBX : Bs < wr.heap.size := hSO.out.blk.lt
          have hsr4 : RdCls W4 (fun b => b < B0) As sub := RdCls.keep (w := wr) (w' := W4) (fun b hb => ⟨fun _ => World.cell?_of_block (hBl.block b (by have := hSO.out.le; omega)), hb⟩) hsr
          clear c0 c1 c2 c3 hsr hRG hSO hBl
          have hz4 := hbx.lt
          have hwrX : wr.heap.size = wr.heap.size := rfl
          clear hwrX
          generalize wr.heap.size = X at *
          refine wpAnyS_take (i := 0) (v := ?_) rfl (by kernel_rfl) (by kernel_rfl) (by kernel_rfl) (by kernel_rfl) (fun _ _ _ h => h) (Or.inl ⟨by kernel_rfl, ?_⟩) hHeld ?_
          rotate_left
          · intro w hSw
            obtain ⟨hs0, hs1, hs2, hs3⟩ := hSw
            go_simp
            first | done | with_reducible rfl
          simp only [Act.put, List.setIfInBounds_toArray, List.set_cons_zero, List.set_cons_succ]
          refine wpAnyS_take (i := 1) (v := ?_) rfl (by kernel_rfl) (by kernel_rfl) (by kernel_rfl) (by kernel_rfl) (fun _ _ _ h => h) (Or.inl ⟨by kernel_rfl, ?_⟩) hHeld ?_
          rotate_left
          · intro w hSw
            obtain ⟨hs0, hs1, hs2, hs3⟩ := hSw
            go_simp
            first | done | with_reducible rfl
          simp only [Act.put, List.setIfInBounds_toArray, List.set_cons_zero, List.set_cons_succ]
          refine wpAnyS_take (i := 2) (v := ?_) rfl (by kernel_rfl) (by kernel_rfl) (by kernel_rfl) (by kernel_rfl) (fun _ _ _ h => h) (Or.inl ⟨by kernel_rfl, ?_⟩) hHeld ?_
          rotate_left
          · intro w hSw
            obtain ⟨hs0, hs1, hs2, hs3⟩ := hSw
            go_simp
            first | done | with_reducible rfl
          simp only [Act.put, List.setIfInBounds_toArray, List.set_cons_zero, List.set_cons_succ]
          by_cases hfx : f = x
          · have hne : (f != x) = false := by simp [hfx]
            have hf0 : 0 ≤ f := by omega
            have HF := Lib.hid hfx
            clear hfx
            refine wpAnyS_take (i := 3) (v := ?_) rfl (by kernel_rfl) (by kernel_rfl) (by kernel_rfl) (by kernel_rfl) (fun _ _ _ h => h) (Or.inl ⟨by kernel_rfl, ?_⟩) hHeld ?_
            rotate_left
            · intro w hSw
              obtain ⟨hs0, hs1, hs2, hs3⟩ := hSw
              go_simp
              first | done | with_reducible rfl
            simp only [Act.put, List.setIfInBounds_toArray, List.set_cons_zero, List.set_cons_succ]
            refine wpAnyS_take (i := 4) (v := ?_) rfl (by kernel_rfl) (by kernel_rfl) (by kernel_rfl) (by kernel_rfl) (fun _ _ _ h => h) (Or.inl ⟨by kernel_rfl, ?_⟩) hHeld ?_
            rotate_left
            · intro w hSw
              obtain ⟨hs0, hs1, hs2, hs3⟩ := hSw
              go_simp
              first | done | with_reducible rfl
            simp only [Act.put, List.setIfInBounds_toArray, List.set_cons_zero, List.set_cons_succ]
            refine wpAnyS_take (i := 5) (v := ?_) rfl (by kernel_rfl) (by kernel_rfl) (by kernel_rfl) (by kernel_rfl) (fun _ _ _ h => h) (Or.inl ⟨by kernel_rfl, ?_⟩) hHeld ?_
            rotate_left
            · intro w hSw
              obtain ⟨hs0, hs1, hs2, hs3⟩ := hSw
              go_simp
              first | done | with_reducible rfl
            simp only [Act.put, List.setIfInBounds_toArray, List.set_cons_zero, List.set_cons_succ]
            refine wpAnyS_take (i := 6) (v := ?_) rfl (by kernel_rfl) (by kernel_rfl) (by kernel_rfl) (by kernel_rfl) (fun _ _ _ h => h) (Or.inl ⟨by kernel_rfl, ?_⟩) hHeld ?_
            rotate_left
            · intro w hSw
              obtain ⟨hs0, hs1, hs2, hs3⟩ := hSw
              go_simp
              first | done | with_reducible rfl
            simp only [Act.put, List.setIfInBounds_toArray, List.set_cons_zero, List.set_cons_succ]
            refine wpAnyS_take (i := 7) (v := ?_) rfl (by kernel_rfl) (by kernel_rfl) (by kernel_rfl) (by kernel_rfl) (fun _ _ _ h => h) (Or.inl ⟨by kernel_rfl, ?_⟩) hHeld ?_
            rotate_left
            · intro w hSw
              obtain ⟨hs0, hs1, hs2, hs3⟩ := hSw
              go_simp
              first | done | with_reducible rfl
            simp only [Act.put, List.setIfInBounds_toArray, List.set_cons_zero, List.set_cons_succ]
            refine wpAnyS_take (i := 8) (v := ?_) rfl (by kernel_rfl) (by kernel_rfl) (by kernel_rfl) (by kernel_rfl) (fun _ _ _ h => h) (Or.inl ⟨by kernel_rfl, ?_⟩) hHeld ?_
            rotate_left
            · intro w hSw
              obtain ⟨hs0, hs1, hs2, hs3⟩ := hSw
              go_simp
              first | done | with_reducible rfl
            simp only [Act.put, List.setIfInBounds_toArray, List.set_cons_zero, List.set_cons_succ]
            by_cases htf : t < f
            · have hlt2 : decide (t < f) = true := decide_eq_true htf
              have Hv := Lib.hid (show rightP ps os l = false from Hrp.out.trans (hgo2.trans (and_no2 (show ¬ f ≤ t by omega))))
              refine wpAnyS_take (i := 9) (v := ?_) rfl (by kernel_rfl) (by kernel_rfl) (by kernel_rfl) (by kernel_rfl) (fun _ _ _ h => h) (Or.inl ⟨by kernel_rfl, ?_⟩) hHeld ?_
              rotate_left
              · intro w hSw
                obtain ⟨hs0, hs1, hs2, hs3⟩ := hSw
                go_simp
                first | done | with_reducible rfl
              simp only [Act.put, List.setIfInBounds_toArray, List.set_cons_zero, List.set_cons_succ]
              refine wpAnyS_take (i := 10) (v := ?_) rfl (by kernel_rfl) (by kernel_rfl) (by kernel_rfl) (by kernel_rfl) (fun _ _ _ h => h) (Or.inl ⟨by kernel_rfl, ?_⟩) hHeld ?_
              rotate_left
              · intro w hSw
                obtain ⟨hs0, hs1, hs2, hs3⟩ := hSw
                go_simp
                first | done | with_reducible rfl
              simp only [Act.put, List.setIfInBounds_toArray, List.set_cons_zero, List.set_cons_succ]
              refine wpAnyS_take (i := 11) (v := ?_) rfl (by kernel_rfl) (by kernel_rfl) (by kernel_rfl) (by kernel_rfl) (fun _ _ _ h => h) (Or.inl ⟨by kernel_rfl, ?_⟩) hHeld ?_
              rotate_left
              · intro w hSw
                obtain ⟨hs0, hs1, hs2, hs3⟩ := hSw
                go_simp
                first | done | with_reducible rfl
              simp only [Act.put, List.setIfInBounds_toArray, List.set_cons_zero, List.set_cons_succ]
              refine wpAnyS_take (i := 12) (v := undef) rfl (by kernel_rfl) (by kernel_rfl) (by kernel_rfl) (by kernel_rfl) (fun _ _ _ h => h) (Or.inr ⟨by kernel_rfl, rfl⟩) hHeld ?_
              simp only [Act.put, List.setIfInBounds_toArray, List.set_cons_zero, List.set_cons_succ]
              refine wpAnyS_take (i := 13) (v := undef) rfl (by kernel_rfl) (by kernel_rfl) (by kernel_rfl) (by kernel_rfl) (fun _ _ _ h => h) (Or.inr ⟨by kernel_rfl, rfl⟩) hHeld ?_
              simp only [Act.put, List.setIfInBounds_toArray, List.set_cons_zero, List.set_cons_succ]
              refine wpAnyS_take (i := 14) (v := undef) rfl (by kernel_rfl) (by kernel_rfl) (by kernel_rfl) (by kernel_rfl) (fun _ _ _ h => h) (Or.inr ⟨by kernel_rfl, rfl⟩) hHeld ?_
              simp only [Act.put, List.setIfInBounds_toArray, List.set_cons_zero, List.set_cons_succ]
              refine wpAnyS_take (i := 15) (v := undef) rfl (by kernel_rfl) (by kernel_rfl) (by kernel_rfl) (by kernel_rfl) (fun _ _ _ h => h) (Or.inr ⟨by kernel_rfl, rfl⟩) hHeld ?_
              simp only [Act.put, List.setIfInBounds_toArray, List.set_cons_zero, List.set_cons_succ]
              refine wpAnyS_take (i := 16) (v := undef) rfl (by kernel_rfl) (by kernel_rfl) (by kernel_rfl) (by kernel_rfl) (fun _ _ _ h => h) (Or.inr ⟨by kernel_rfl, rfl⟩) hHeld ?_
              simp only [Act.put, List.setIfInBounds_toArray, List.set_cons_zero, List.set_cons_succ]
              refine wpAnyS_take (i := 17) (v := undef) rfl (by kernel_rfl) (by kernel_rfl) (by kernel_rfl) (by kernel_rfl) (fun _ _ _ h => h) (Or.inr ⟨by kernel_rfl, rfl⟩) hHeld ?_
              simp only [Act.put, List.setIfInBounds_toArray, List.set_cons_zero, List.set_cons_succ]
              refine wpAnyS_take (i := 18) (v := ?_) rfl (by kernel_rfl) (by kernel_rfl) (by kernel_rfl) (by kernel_rfl) (fun _ _ _ h => h) (Or.inl ⟨by kernel_rfl, ?_⟩) hHeld ?_
              rotate_left
              · intro w hSw
                obtain ⟨hs0, hs1, hs2, hs3⟩ := hSw
                go_simp
                first | done | with_reducible rfl
              simp only [Act.put, List.setIfInBounds_toArray, List.set_cons_zero, List.set_cons_succ]
              refine wpAnyS_take (i := 19) (v := ?_) rfl (by kernel_rfl) (by kernel_rfl) (by kernel_rfl) (by kernel_rfl) (fun _ _ _ h => h) (Or.inl ⟨by kernel_rfl, ?_⟩) hHeld ?_
              rotate_left
              · intro w hSw
                obtain ⟨hs0, hs1, hs2, hs3⟩ := hSw
                go_simp
                first | done | with_reducible rfl
              simp only [Act.put, List.setIfInBounds_toArray, List.set_cons_zero, List.set_cons_succ]
              refine wpAnyS_take (i := 20) (v := undef) rfl (by kernel_rfl) (by kernel_rfl) (by kernel_rfl) (by kernel_rfl) (fun _ _ _ h => h) (Or.inr ⟨by kernel_rfl, rfl⟩) hHeld ?_
              simp only [Act.put, List.setIfInBounds_toArray, List.set_cons_zero, List.set_cons_succ]
              refine wpAnyS_take (i := 21) (v := undef) rfl (by kernel_rfl) (by kernel_rfl) (by kernel_rfl) (by kernel_rfl) (fun _ _ _ h => h) (Or.inr ⟨by kernel_rfl, rfl⟩) hHeld ?_
              simp only [Act.put, List.setIfInBounds_toArray, List.set_cons_zero, List.set_cons_succ]
              refine wpAnyS_ready (rs := [22]) (by kernel_rfl) (by simp) ?_
              refine AllReadyS.cons rfl (fun K hK => ?_) AllReadyS.nil
              go_simp
              refine hK.out _ _ (fun h => absurd h (by decide)) ?_
              clear hK
              try simp only [Act.put, List.setIfInBounds_toArray, List.set_cons_zero, List.set_cons_succ]
              refine wpAnyS_ready (rs := [23]) (by kernel_rfl) (by simp) ?_
              refine AllReadyS.cons rfl (fun K hK => ?_) AllReadyS.nil
              go_simp
              refine hK.out _ _ (fun h => absurd h (by decide)) ?_
              clear hK
              try simp only [Act.put, List.setIfInBounds_toArray, List.set_cons_zero, List.set_cons_succ]
              refine wpAnyS_ready (rs := [24]) (by kernel_rfl) (by simp) ?_
              refine AllReadyS.cons rfl (fun K hK => ?_) AllReadyS.nil
              go_simp
              refine hK.out _ _ (fun h => absurd h (by decide)) ?_
              clear hK
              try simp only [Act.put, List.setIfInBounds_toArray, List.set_cons_zero, List.set_cons_succ]
              refine wpAnyS_done (by kernel_rfl) ?_ _
              have HR4 := Lib.hid hRG4
              have HS4 := Lib.hid hSO4
              clear hRG4 hSO4 hgo2
              go_wp2_with fail
              go_ret
              exact ⟨ret_bool Hv.out.symm, _, HR4.out, HS4.out⟩
            · have hlt2 : decide (t < f) = false := decide_eq_false htf
              refine wpAnyS_take (i := 9) (v := ?_) rfl (by kernel_rfl) (by kernel_rfl) (by kernel_rfl) (by kernel_rfl) (fun _ _ _ h => h) (Or.inl ⟨by kernel_rfl, ?_⟩) hHeld ?_
              rotate_left
              · intro w hSw
                obtain ⟨hs0, hs1, hs2, hs3⟩ := hSw
                go_simp
                first | done | with_reducible rfl
              simp only [Act.put, List.setIfInBounds_toArray, List.set_cons_zero, List.set_cons_succ]
              refine wpAnyS_take (i := 10) (v := ?_) rfl (by kernel_rfl) (by kernel_rfl) (by kernel_rfl) (by kernel_rfl) (fun _ _ _ h => h) (Or.inl ⟨by kernel_rfl, ?_⟩) hHeld ?_
              rotate_left
              · intro w hSw
                obtain ⟨hs0, hs1, hs2, hs3⟩ := hSw
                go_simp
                first | done | with_reducible rfl
              simp only [Act.put, List.setIfInBounds_toArray, List.set_cons_zero, List.set_cons_succ]
              refine wpAnyS_take (i := 11) (v := ?_) rfl (by kernel_rfl) (by kernel_rfl) (by kernel_rfl) (by kernel_rfl) (fun _ _ _ h => h) (Or.inl ⟨by kernel_rfl, ?_⟩) hHeld ?_
              rotate_left
              · intro w hSw
                obtain ⟨hs0, hs1, hs2, hs3⟩ := hSw
                go_simp
                first | done | with_reducible rfl
              simp only [Act.put, List.setIfInBounds_toArray, List.set_cons_zero, List.set_cons_succ]
              refine wpAnyS_take (i := 12) (v := ?_) rfl (by kernel_rfl) (by kernel_rfl) (by kernel_rfl) (by kernel_rfl) (fun _ _ _ h => h) (Or.inl ⟨by kernel_rfl, ?_⟩) hHeld ?_
              rotate_left
              · intro w hSw
                obtain ⟨hs0, hs1, hs2, hs3⟩ := hSw
                go_simp
                first | done | with_reducible rfl
              simp only [Act.put, List.setIfInBounds_toArray, List.set_cons_zero, List.set_cons_succ]
              refine wpAnyS_take (i := 13) (v := ?_) rfl (by kernel_rfl) (by kernel_rfl) (by kernel_rfl) (by kernel_rfl) (fun _ _ _ h => h) (Or.inl ⟨by kernel_rfl, ?_⟩) hHeld ?_
              rotate_left
              · intro w hSw
                obtain ⟨hs0, hs1, hs2, hs3⟩ := hSw
                go_simp
                first | done | with_reducible rfl
              simp only [Act.put, List.setIfInBounds_toArray, List.set_cons_zero, List.set_cons_succ]
              refine wpAnyS_take (i := 14) (v := ?_) rfl (by kernel_rfl) (by kernel_rfl) (by kernel_rfl) (by kernel_rfl) (fun _ _ _ h => h) (Or.inl ⟨by kernel_rfl, ?_⟩) hHeld ?_
              rotate_left
              · intro w hSw
                obtain ⟨hs0, hs1, hs2, hs3⟩ := hSw
                go_simp
                first | done | with_reducible rfl
              simp only [Act.put, List.setIfInBounds_toArray, List.set_cons_zero, List.set_cons_succ]
              refine wpAnyS_take (i := 15) (v := ?_) rfl (by kernel_rfl) (by kernel_rfl) (by kernel_rfl) (by kernel_rfl) (fun _ _ _ h => h) (Or.inl ⟨by kernel_rfl, ?_⟩) hHeld ?_
              rotate_left
              · intro w hSw
                obtain ⟨hs0, hs1, hs2, hs3⟩ := hSw
                go_simp
                first | done | with_reducible rfl
              simp only [Act.put, List.setIfInBounds_toArray, List.set_cons_zero, List.set_cons_succ]
              refine wpAnyS_ready (rs := [16]) (by kernel_rfl) (by simp) ?_
              refine AllReadyS.cons rfl (fun K hK => ?_) AllReadyS.nil
              go_simp
              refine (Hla.out W4 V' hSO4).mono ?_
              rintro e W5 ⟨rfl, nq, rfl⟩
              dsimp only
              replace hRG4 := hRG4.trans (.of_below (below_drewN (Below.refl _ _) nq))
              replace hSO4 := hSO4.next (below_drewN (Below.refl _ _) nq)
              replace hbx := hbx.drewN nq
              replace hsr4 : RdCls (W4.drewN nq) (fun b => b < B0) As sub := RdCls.keep (w := W4) (w' := W4.drewN nq) (fun b hb => ⟨fun _ => rfl, hb⟩) hsr4
              replace hz4 := hbx.lt
              generalize W4.drewN nq = W5 at *
              have hH5 : W5.cell? ⟨X, 0, none⟩ = some (.int .i64 f) ∧ W5.cell? ⟨X, 1, none⟩ = some (.int .i64 t) ∧ W5.cell? ⟨X, 2, none⟩ = some (.int .i64 wi) ∧ W5.cell? ⟨X, 3, none⟩ = some (.slice As sub.length cs) := ⟨hbx.cell 0, hbx.cell 1, hbx.cell 2, hbx.cell 3⟩
              refine hK.out _ _ (fun _ => hH5) ?_
              clear hK hHeld
              try simp only [Act.put, List.setIfInBounds_toArray, List.set_cons_zero, List.set_cons_succ]
              by_cases htl : la < t
              · have hgt2 : decide (t > la) = true := decide_eq_true htl
                have Hv := Lib.hid (show rightP ps os l = false from Hrp.out.trans (hgo2.trans (and_no3 (show ¬ t ≤ la by omega))))
                refine wpAnyS_take (i := 17) (v := ?_) rfl (by kernel_rfl) (by kernel_rfl) (by kernel_rfl) (by kernel_rfl) (fun _ _ _ h => h) (Or.inl ⟨by kernel_rfl, ?_⟩) hH5 ?_
                rotate_left
                · intro w hSw
                  obtain ⟨hs0, hs1, hs2, hs3⟩ := hSw
                  go_simp
                  first | done | with_reducible rfl
                simp only [Act.put, List.setIfInBounds_toArray, List.set_cons_zero, List.set_cons_succ]
                refine wpAnyS_take (i := 18) (v := ?_) rfl (by kernel_rfl) (by kernel_rfl) (by kernel_rfl) (by kernel_rfl) (fun _ _ _ h => h) (Or.inl ⟨by kernel_rfl, ?_⟩) hH5 ?_
                rotate_left
                · intro w hSw
                  obtain ⟨hs0, hs1, hs2, hs3⟩ := hSw
                  go_simp
                  first | done | with_reducible rfl
                simp only [Act.put, List.setIfInBounds_toArray, List.set_cons_zero, List.set_cons_succ]
                refine wpAnyS_take (i := 19) (v := ?_) rfl (by kernel_rfl) (by kernel_rfl) (by kernel_rfl) (by kernel_rfl) (fun _ _ _ h => h) (Or.inl ⟨by kernel_rfl, ?_⟩) hH5 ?_
                rotate_left
                · intro w hSw
                  obtain ⟨hs0, hs1, hs2, hs3⟩ := hSw
                  go_simp
                  first | done | with_reducible rfl
                simp only [Act.put, List.setIfInBounds_toArray, List.set_cons_zero, List.set_cons_succ]
                refine wpAnyS_take (i := 20) (v := undef) rfl (by kernel_rfl) (by kernel_rfl) (by kernel_rfl) (by kernel_rfl) (fun _ _ _ h => h) (Or.inr ⟨by kernel_rfl, rfl⟩) hH5 ?_
                simp only [Act.put, List.setIfInBounds_toArray, List.set_cons_zero, List.set_cons_succ]
                refine wpAnyS_take (i := 21) (v := undef) rfl (by kernel_rfl) (by kernel_rfl) (by kernel_rfl) (by kernel_rfl) (fun _ _ _ h => h) (Or.inr ⟨by kernel_rfl, rfl⟩) hH5 ?_
                simp only [Act.put, List.setIfInBounds_toArray, List.set_cons_zero, List.set_cons_succ]
                refine wpAnyS_ready (rs := [22]) (by kernel_rfl) (by simp) ?_
                refine AllReadyS.cons rfl (fun K hK => ?_) AllReadyS.nil
                go_simp
                refine hK.out _ _ (fun h => absurd h (by decide)) ?_
                clear hK
                try simp only [Act.put, List.setIfInBounds_toArray, List.set_cons_zero, List.set_cons_succ]
                refine wpAnyS_ready (rs := [23]) (by kernel_rfl) (by simp) ?_
                refine AllReadyS.cons rfl (fun K hK => ?_) AllReadyS.nil
                go_simp
                refine hK.out _ _ (fun h => absurd h (by decide)) ?_
                clear hK
                try simp only [Act.put, List.setIfInBounds_toArray, List.set_cons_zero, List.set_cons_succ]
                refine wpAnyS_ready (rs := [24]) (by kernel_rfl) (by simp) ?_
                refine AllReadyS.cons rfl (fun K hK => ?_) AllReadyS.nil
                go_simp
                refine hK.out _ _ (fun h => absurd h (by decide)) ?_
                clear hK
                try simp only [Act.put, List.setIfInBounds_toArray, List.set_cons_zero, List.set_cons_succ]
                refine wpAnyS_done (by kernel_rfl) ?_ _
                have HR4 := Lib.hid hRG4
                have HS4 := Lib.hid hSO4
                clear hRG4 hSO4 hgo2
                go_wp2_with fail
                go_ret
                exact ⟨ret_bool Hv.out.symm, _, HR4.out, HS4.out⟩
              · have hgt2 : decide (t > la) = false := decide_eq_false htl
                have hgo3 := hgo2.trans (and_yes HF.out (show f ≤ t by omega) (show t ≤ la by omega))
                have hone := one_c hPT f t wi sub As cs (fun W2 V2 os2 h1 h2 h3 => IH.out sub hsub W2 V2 os2 As cs h1 h2 h3 (by unfold maxLen at hs2; omega)) hSO4 Hlt.out (by omega) (by omega) (by omega) (by unfold maxLen at hs2; omega) hsr4
                refine wpAnyS_take (i := 17) (v := ?_) rfl (by kernel_rfl) (by kernel_rfl) (by kernel_rfl) (by kernel_rfl) (fun _ _ _ h => h) (Or.inl ⟨by kernel_rfl, ?_⟩) hH5 ?_
                rotate_left
                · intro w hSw
                  obtain ⟨hs0, hs1, hs2, hs3⟩ := hSw
                  go_simp
                  first | done | with_reducible rfl
                simp only [Act.put, List.setIfInBounds_toArray, List.set_cons_zero, List.set_cons_succ]
                refine wpAnyS_take (i := 18) (v := ?_) rfl (by kernel_rfl) (by kernel_rfl) (by kernel_rfl) (by kernel_rfl) (fun _ _ _ h => h) (Or.inl ⟨by kernel_rfl, ?_⟩) hH5 ?_
                rotate_left
                · intro w hSw
                  obtain ⟨hs0, hs1, hs2, hs3⟩ := hSw
                  go_simp
                  first | done | with_reducible rfl
                simp only [Act.put, List.setIfInBounds_toArray, List.set_cons_zero, List.set_cons_succ]
                refine wpAnyS_take (i := 19) (v := ?_) rfl (by kernel_rfl) (by kernel_rfl) (by kernel_rfl) (by kernel_rfl) (fun _ _ _ h => h) (Or.inl ⟨by kernel_rfl, ?_⟩) hH5 ?_
                rotate_left
                · intro w hSw
                  obtain ⟨hs0, hs1, hs2, hs3⟩ := hSw
                  go_simp
                  first | done | with_reducible rfl
                simp only [Act.put, List.setIfInBounds_toArray, List.set_cons_zero, List.set_cons_succ]
                refine wpAnyS_take (i := 20) (v := ?_) rfl (by kernel_rfl) (by kernel_rfl) (by kernel_rfl) (by kernel_rfl) (fun _ _ _ h => h) (Or.inl ⟨by kernel_rfl, ?_⟩) hH5 ?_
                rotate_left
                · intro w hSw
                  obtain ⟨hs0, hs1, hs2, hs3⟩ := hSw
                  go_simp
                  first | done | with_reducible rfl
                simp only [Act.put, List.setIfInBounds_toArray, List.set_cons_zero, List.set_cons_succ]
                refine wpAnyS_take (i := 21) (v := ?_) rfl (by kernel_rfl) (by kernel_rfl) (by kernel_rfl) (by kernel_rfl) (fun _ _ _ h => h) (Or.inl ⟨by kernel_rfl, ?_⟩) hH5 ?_
                rotate_left
                · intro w hSw
                  obtain ⟨hs0, hs1, hs2, hs3⟩ := hSw
                  go_simp
                  first | done | with_reducible rfl
                simp only [Act.put, List.setIfInBounds_toArray, List.set_cons_zero, List.set_cons_succ]
                refine wpAnyS_ready (rs := [22]) (by kernel_rfl) (by simp) ?_
                refine AllReadyS.cons rfl (fun K hK => ?_) AllReadyS.nil
                go_simp
                refine hone.mono ?_
                rintro e W6 ⟨rfl, V6, hRG6, hSO6⟩
                dsimp only
                refine hK.out _ _ (fun h => absurd h (by decide)) ?_
                have hbx6 : Blk W6 X 35 #[.int .i64 f, .int .i64 t, .int .i64 wi, .slice As sub.length cs] := (hRG6.gr.block X hz4 (fun e => by
                  rcases e with e | e
                  · omega
                  · have := hVX X e; omega)).trans hbx
                have hRG7 := hRG4.trans hRG6
                have hc1 : W6.cell? ⟨X, 1, none⟩ = some (.int .i64 t) := hbx6.cell 1
                have HR7 := Lib.hid hRG7
                have HS6 := Lib.hid hSO6
                have hwt := IntWalk.i64_in (t + 1) (by omega)
                clear hK hone hRG6 hRG4 hSO4 hbx hbx6 hRG7 hSO6 hsr4 hH5
                cases hq : oneP ps os (.mk f t wi sub) with
                | false =>
                  have Hv := Lib.hid (show rightP ps os l = false from Hrp.out.trans (hgo3.trans (by rw [hq]; rfl)))
                  clear hgo2 hgo3 hq
                  try simp only [Act.put, List.setIfInBounds_toArray, List.set_cons_zero, List.set_cons_succ]
                  refine wpAnyS_ready (rs := [23]) (by kernel_rfl) (by simp) ?_
                  refine AllReadyS.cons rfl (fun K hK => ?_) AllReadyS.nil
                  go_simp
                  refine hK.out _ _ (fun h => absurd h (by decide)) ?_
                  clear hK
                  try simp only [Act.put, List.setIfInBounds_toArray, List.set_cons_zero, List.set_cons_succ]
                  refine wpAnyS_ready (rs := [24]) (by kernel_rfl) (by simp) ?_
                  refine AllReadyS.cons rfl (fun K hK => ?_) AllReadyS.nil
                  go_simp
                  refine hK.out _ _ (fun h => absurd h (by decide)) ?_
                  clear hK
                  try simp only [Act.put, List.setIfInBounds_toArray, List.set_cons_zero, List.set_cons_succ]
                  refine wpAnyS_done (by kernel_rfl) ?_ _
                  go_wp2_with fail
                  go_ret
                  exact ⟨ret_bool Hv.out.symm, _, HR7.out, HS6.out⟩
                | true =>
                  have Hgo := Lib.hid (show goP ps os 0 l = goP ps os (t + 1) (l.drop (k + 1)) from hgo3.trans (by rw [hq]; rfl))
                  clear hgo2 hgo3 hq
                  try simp only [Act.put, List.setIfInBounds_toArray, List.set_cons_zero, List.set_cons_succ]
                  refine wpAnyS_ready (rs := [23]) (by kernel_rfl) (by simp) ?_
                  refine AllReadyS.cons rfl (fun K hK => ?_) AllReadyS.nil
                  go_simp
                  refine hK.out _ _ (fun h => absurd h (by decide)) ?_
                  clear hK
                  try simp only [Act.put, List.setIfInBounds_toArray, List.set_cons_zero, List.set_cons_succ]
                  refine wpAnyS_ready (rs := [24]) (by kernel_rfl) (by simp) ?_
                  refine AllReadyS.cons rfl (fun K hK => ?_) AllReadyS.nil
                  go_simp
                  refine hK.out _ _ (fun h => absurd h (by decide)) ?_
                  clear hK
                  try simp only [Act.put, List.setIfInBounds_toArray, List.set_cons_zero, List.set_cons_succ]
                  refine wpAnyS_done (by kernel_rfl) ?_ _
                  go_wp2_with fail
                  go_roundw
                  case rel => exact ⟨k + 1, t + 1, V6, by omega, by go_num, rfl, by omega, by omega, HR7.out, HS6.out, Hgo.out⟩
                  case measure => simp [intOf]; omega
          · have hne : (f != x) = true := by simp [hfx]
            have Hv := Lib.hid (show rightP ps os l = false from Hrp.out.trans (hgo2.trans (and_no1 hfx)))
            refine wpAnyS_take (i := 3) (v := ?_) rfl (by kernel_rfl) (by kernel_rfl) (by kernel_rfl) (by kernel_rfl) (fun _ _ _ h => h) (Or.inl ⟨by kernel_rfl, ?_⟩) hHeld ?_
            rotate_left
            · intro w hSw
              obtain ⟨hs0, hs1, hs2, hs3⟩ := hSw
              go_simp
              first | done | with_reducible rfl
            simp only [Act.put, List.setIfInBounds_toArray, List.set_cons_zero, List.set_cons_succ]
            refine wpAnyS_take (i := 4) (v := ?_) rfl (by kernel_rfl) (by kernel_rfl) (by kernel_rfl) (by kernel_rfl) (fun _ _ _ h => h) (Or.inl ⟨by kernel_rfl, ?_⟩) hHeld ?_
            rotate_left
            · intro w hSw
              obtain ⟨hs0, hs1, hs2, hs3⟩ := hSw
              go_simp
              first | done | with_reducible rfl
            simp only [Act.put, List.setIfInBounds_toArray, List.set_cons_zero, List.set_cons_succ]
            refine wpAnyS_take (i := 5) (v := undef) rfl (by kernel_rfl) (by kernel_rfl) (by kernel_rfl) (by kernel_rfl) (fun _ _ _ h => h) (Or.inr ⟨by kernel_rfl, rfl⟩) hHeld ?_
            simp only [Act.put, List.setIfInBounds_toArray, List.set_cons_zero, List.set_cons_succ]
            refine wpAnyS_take (i := 6) (v := undef) rfl (by kernel_rfl) (by kernel_rfl) (by kernel_rfl) (by kernel_rfl) (fun _ _ _ h => h) (Or.inr ⟨by kernel_rfl, rfl⟩) hHeld ?_
            simp only [Act.put, List.setIfInBounds_toArray, List.set_cons_zero, List.set_cons_succ]
            refine wpAnyS_take (i := 7) (v := undef) rfl (by kernel_rfl) (by kernel_rfl) (by kernel_rfl) (by kernel_rfl) (fun _ _ _ h => h) (Or.inr ⟨by kernel_rfl, rfl⟩) hHeld ?_
            simp only [Act.put, List.setIfInBounds_toArray, List.set_cons_zero, List.set_cons_succ]
            refine wpAnyS_take (i := 8) (v := undef) rfl (by kernel_rfl) (by kernel_rfl) (by kernel_rfl) (by kernel_rfl) (fun _ _ _ h => h) (Or.inr ⟨by kernel_rfl, rfl⟩) hHeld ?_
            simp only [Act.put, List.setIfInBounds_toArray, List.set_cons_zero, List.set_cons_succ]
            refine wpAnyS_take (i := 9) (v := undef) rfl (by kernel_rfl) (by kernel_rfl) (by kernel_rfl) (by kernel_rfl) (fun _ _ _ h => h) (Or.inr ⟨by kernel_rfl, rfl⟩) hHeld ?_
            simp only [Act.put, List.setIfInBounds_toArray, List.set_cons_zero, List.set_cons_succ]
            refine wpAnyS_take (i := 10) (v := ?_) rfl (by kernel_rfl) (by kernel_rfl) (by kernel_rfl) (by kernel_rfl) (fun _ _ _ h => h) (Or.inl ⟨by kernel_rfl, ?_⟩) hHeld ?_
            rotate_left
            · intro w hSw
              obtain ⟨hs0, hs1, hs2, hs3⟩ := hSw
              go_simp
              first | done | with_reducible rfl
            simp only [Act.put, List.setIfInBounds_toArray, List.set_cons_zero, List.set_cons_succ]
            refine wpAnyS_take (i := 11) (v := ?_) rfl (by kernel_rfl) (by kernel_rfl) (by kernel_rfl) (by kernel_rfl) (fun _ _ _ h => h) (Or.inl ⟨by kernel_rfl, ?_⟩) hHeld ?_
            rotate_left
            · intro w hSw
              obtain ⟨hs0, hs1, hs2, hs3⟩ := hSw
              go_simp
              first | done | with_reducible rfl
            simp only [Act.put, List.setIfInBounds_toArray, List.set_cons_zero, List.set_cons_succ]
            refine wpAnyS_take (i := 12) (v := undef) rfl (by kernel_rfl) (by kernel_rfl) (by kernel_rfl) (by kernel_rfl) (fun _ _ _ h => h) (Or.inr ⟨by kernel_rfl, rfl⟩) hHeld ?_
            simp only [Act.put, List.setIfInBounds_toArray, List.set_cons_zero, List.set_cons_succ]
            refine wpAnyS_take (i := 13) (v := undef) rfl (by kernel_rfl) (by kernel_rfl) (by kernel_rfl) (by kernel_rfl) (fun _ _ _ h => h) (Or.inr ⟨by kernel_rfl, rfl⟩) hHeld ?_
            simp only [Act.put, List.setIfInBounds_toArray, List.set_cons_zero, List.set_cons_succ]
            refine wpAnyS_take (i := 14) (v := undef) rfl (by kernel_rfl) (by kernel_rfl) (by kernel_rfl) (by kernel_rfl) (fun _ _ _ h => h) (Or.inr ⟨by kernel_rfl, rfl⟩) hHeld ?_
            simp only [Act.put, List.setIfInBounds_toArray, List.set_cons_zero, List.set_cons_succ]
            refine wpAnyS_take (i := 15) (v := undef) rfl (by kernel_rfl) (by kernel_rfl) (by kernel_rfl) (by kernel_rfl) (fun _ _ _ h => h) (Or.inr ⟨by kernel_rfl, rfl⟩) hHeld ?_
            simp only [Act.put, List.setIfInBounds_toArray, List.set_cons_zero, List.set_cons_succ]
            refine wpAnyS_take (i := 16) (v := undef) rfl (by kernel_rfl) (by kernel_rfl) (by kernel_rfl) (by kernel_rfl) (fun _ _ _ h => h) (Or.inr ⟨by kernel_rfl, rfl⟩) hHeld ?_
            simp only [Act.put, List.setIfInBounds_toArray, List.set_cons_zero, List.set_cons_succ]
            refine wpAnyS_take (i := 17) (v := undef) rfl (by kernel_rfl) (by kernel_rfl) (by kernel_rfl) (by kernel_rfl) (fun _ _ _ h => h) (Or.inr ⟨by kernel_rfl, rfl⟩) hHeld ?_
            simp only [Act.put, List.setIfInBounds_toArray, List.set_cons_zero, List.set_cons_succ]
            refine wpAnyS_take (i := 18) (v := ?_) rfl (by kernel_rfl) (by kernel_rfl) (by kernel_rfl) (by kernel_rfl) (fun _ _ _ h => h) (Or.inl ⟨by kernel_rfl, ?_⟩) hHeld ?_
            rotate_left
            · intro w hSw
              obtain ⟨hs0, hs1, hs2, hs3⟩ := hSw
              go_simp
              first | done | with_reducible rfl
            simp only [Act.put, List.setIfInBounds_toArray, List.set_cons_zero, List.set_cons_succ]
            refine wpAnyS_take (i := 19) (v := ?_) rfl (by kernel_rfl) (by kernel_rfl) (by kernel_rfl) (by kernel_rfl) (fun _ _ _ h => h) (Or.inl ⟨by kernel_rfl, ?_⟩) hHeld ?_
            rotate_left
            · intro w hSw
              obtain ⟨hs0, hs1, hs2, hs3⟩ := hSw
              go_simp
              first | done | with_reducible rfl
            simp only [Act.put, List.setIfInBounds_toArray, List.set_cons_zero, List.set_cons_succ]
            refine wpAnyS_take (i := 20) (v := undef) rfl (by kernel_rfl) (by kernel_rfl) (by kernel_rfl) (by kernel_rfl) (fun _ _ _ h => h) (Or.inr ⟨by kernel_rfl, rfl⟩) hHeld ?_
            simp only [Act.put, List.setIfInBounds_toArray, List.set_cons_zero, List.set_cons_succ]
            refine wpAnyS_take (i := 21) (v := undef) rfl (by kernel_rfl) (by kernel_rfl) (by kernel_rfl) (by kernel_rfl) (fun _ _ _ h => h) (Or.inr ⟨by kernel_rfl, rfl⟩) hHeld ?_
            simp only [Act.put, List.setIfInBounds_toArray, List.set_cons_zero, List.set_cons_succ]
            refine wpAnyS_ready (rs := [22]) (by kernel_rfl) (by simp) ?_
            refine AllReadyS.cons rfl (fun K hK => ?_) AllReadyS.nil
            go_simp
            refine hK.out _ _ (fun h => absurd h (by decide)) ?_
            clear hK
            try simp only [Act.put, List.setIfInBounds_toArray, List.set_cons_zero, List.set_cons_succ]
            refine wpAnyS_ready (rs := [23]) (by kernel_rfl) (by simp) ?_
            refine AllReadyS.cons rfl (fun K hK => ?_) AllReadyS.nil
            go_simp
            refine hK.out _ _ (fun h => absurd h (by decide)) ?_
            clear hK
            try simp only [Act.put, List.setIfInBounds_toArray, List.set_cons_zero, List.set_cons_succ]
            refine wpAnyS_ready (rs := [24]) (by kernel_rfl) (by simp) ?_
            refine AllReadyS.cons rfl (fun K hK => ?_) AllReadyS.nil
            go_simp
            refine hK.out _ _ (fun h => absurd h (by decide)) ?_
            clear hK
            try simp only [Act.put, List.setIfInBounds_toArray, List.set_cons_zero, List.set_cons_succ]
            refine wpAnyS_done (by kernel_rfl) ?_ _
            have HR4 := Lib.hid hRG4
            have HS4 := Lib.hid hSO4
            clear hRG4 hSO4 hgo2
            go_wp2_with fail
            go_ret
            exact ⟨ret_bool Hv.out.symm, _, HR4.out, HS4.out⟩
        · obtain rfl : k = l.length := by omega
          have hgo2 : goP ps os 0 l = decide (x = la + 1) := by rw [hgo.out, List.drop_length, goP, HLA.out]
          have Hv := Lib.hid (show rightP ps os l = decide (x = la + 1) from Hrp.out.trans hgo2)
          have hcall := Hla.out wr V' hSO.out
          have hwl := IntWalk.i64_in (la + 1) (by omega)
          have hxd : (x == la + 1) = decide (x = la + 1) := rfl
          clear hgo hgo2 hkl
          go_wp2_with fail
          refine hcall.mono ?_
          rintro e w2 ⟨rfl, nq, rfl⟩
          have hRG4 := hRG.out.trans (.of_below (below_drewN (Below.refl _ _) nq))
          have hSO4 := hSO.out.next (below_drewN (Below.refl _ _) nq)
          clear hcall
          go_wp2_with fail
          go_ret
          exact ⟨ret_bool Hv.out.symm, _, hRG4, hSO4⟩
    · have hd : decide ((os.length : Int) ≥ (ps.length : Int)) = true := decide_eq_true (by omega)
      have hd0 : ps.length ≤ os.length := by omega
      have Hv := Lib.hid (show rightP ps os l = false by simp [rightP, hlt])
      have H := Lib.hid h
      clear h hSB hrd hlt
      go_enter Try.func39, Try.ntmps39
      go_wp2_with fail
      go_ret
      exact ⟨ret_bool Hv.out.symm, _, .of_below (Below.refl _ _), H.out⟩
end Go.Proofs.Ytlmbffnmjfbglab
