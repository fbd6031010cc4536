/- The contracts of of, find, Translate and Owner, of the program and of the reference. -/
import Derived.Test.YtjgmdchlgabflaaA1
namespace Go.Proofs.Ytjgmdchlgabflaa
open Go.ChangeShapes Go.WideShapes Go.ChangeAt Go.RowKit

/-- the closure of 'of': it captures the variable 'part'. -/
theorem of1_c (w : World) (B : Nat) (part : Int) (hB : B < w.heap.size) (hc : w.cell? ⟨B, 0, none⟩ = some (.int .i64 part)) :
    PredReg 53 #[.pointer (some ⟨B, 0, none⟩)] (fun r => r.part == part) w := fun W r hb => by
  have hc' : W.cell? ⟨B, 0, none⟩ = some (.int .i64 part) := (hb.cell (p := ⟨B, 0, none⟩) hB).trans hc
  have hz := hb.size
  have hBW : B < W.heap.size := by omega
  clear hb hc hB
  go_enter Try.func53, Try.ntmps53
  go_wp2
  go_ret
  exact ⟨rfl, (Below.refl _ _).alloc (Nat.le_refl _) _⟩

theorem owner1_c (w : World) (B : Nat) (a : Int) (hB : B < w.heap.size) (hc : w.cell? ⟨B, 0, none⟩ = some (.int .i64 a)) :
    PredReg 30 #[.pointer (some ⟨B, 0, none⟩)] (fun r => r.has a) w := fun W r hb => by
  have hc' : W.cell? ⟨B, 0, none⟩ = some (.int .i64 a) := (hb.cell (p := ⟨B, 0, none⟩) hB).trans hc
  have hz := hb.size
  have hBW : B < W.heap.size := by omega
  clear hb hc hB
  by_cases h1 : r.base ≤ a
  all_goals
    have hd : decide (r.base ≤ a) = true ∨ decide (r.base ≤ a) = false := by cases decide (r.base ≤ a) <;> simp
    go_enter Try.func30, Try.ntmps30
    go_wp2
    refine nameW fun W0 hW0 => ?_
    have e1 : W0.cell? ⟨B, 0, none⟩ = some (.int .i64 a) := by subst hW0; simpa [World.cell?_alloc_lt, hBW] using hc'
    have e2 : W0.cell? ⟨W.heap.size, 0, none⟩ = some (.int .i64 r.part) := by subst hW0; simp
    have e3 : W0.cell? ⟨W.heap.size, 1, none⟩ = some (.int .i64 r.base) := by subst hW0; simp
    have e4 : W0.cell? ⟨W.heap.size, 2, none⟩ = some (.int .i64 r.size) := by subst hW0; simp
    have e5 : W.heap.size < W0.heap.size := by subst hW0; simp
    have e6 : B < W0.heap.size := by omega
    have e7 : Below W.heap.size W W0 := by subst hW0; exact (Below.refl _ _).alloc (Nat.le_refl _) _
    clear hW0 hc'
  · clear hd
    go_region_held3 (fun w' => (∀ b o, b < W0.heap.size → w'.cell? ⟨b, o, none⟩ = W0.cell? ⟨b, o, none⟩) ∧ W0.heap.size ≤ w'.heap.size ∧ Below W0.heap.size W0 w') (first | exact sr_drew _ | exact sr_next (by assumption) (by assumption)) ((go_at_call 31; refine (end_c _ _).mono ?_; rintro e w' ⟨rfl, hb'⟩))
    rename_i hH
    go_wp2
    go_ret
    exact ⟨ret_bool (by simp [Reg.has, h1]), e7.trans (hH.2.2.mono (by omega))⟩
  · have hd : decide (r.base ≤ a) = false := by simpa using h1
    go_quiet (fail)
    go_wp2
    go_ret
    exact ⟨ret_bool (by simp [Reg.has]; omega), below_drewN e7 _⟩

def findR (p : Reg → Bool) (l : List Reg) : Reg × Bool := match l.find? p with | some r => (r, true) | none => (⟨0, 0, 0⟩, false)
theorem find_c (g : Nat) (lb : Array Value) (p : Reg → Bool) (eg : ∀ args w, (callFunc g args).run Try.prog w = .ok (.enter g args) w) (l : List Reg) (A : Option Addr) (c : Nat) (w : World)
    (hp : PredReg g lb p w) (h : RdReg w w.heap.size A l) (hl : l.length ≤ 4611686018427387904) :
    Calls Try.prog 29 #[.slice A l.length c, .func (.func g) #[] lb] w fun e w' => e = .returned (.tuple #[.agg #[.int .i64 (findR p l).1.part, .int .i64 (findR p l).1.base, .int .i64 (findR p l).1.size], .bool (findR p l).2]) ∧ Below w.heap.size w w' := by
  have hp1 : PredReg g lb p (w.alloc (.cells #[.int .i64 0, .int .i64 0, .int .i64 0] 42)) := fun W r hb => hp W r (((Below.refl _ w).alloc (Nat.le_refl _) _).trans (hb.mono (by simp)))
  have h1 := h.below ((Below.refl _ w).alloc (Nat.le_refl _) (.cells #[.int .i64 0, .int .i64 0, .int .i64 0] 42))
  have hI := indexReg_c g lb p eg l A c _ hp1 h1 hl
  have hW1 : Below w.heap.size w (w.alloc (.cells #[.int .i64 0, .int .i64 0, .int .i64 0] 42)) := (Below.refl _ w).alloc (Nat.le_refl _) _
  rcases find_cases p l with ⟨k, hk, hi, hf, _⟩ | ⟨hi, hf⟩
  · have hF : findR p l = (l[k], true) := by simp [findR, hf]
    rw [hi] at hI
    rw [hF]
    clear hi hf hF hp hp1
    obtain ⟨b, o, rfl, hb, hc⟩ := h1 (by omega)
    obtain ⟨c0, c1, c2⟩ := hc k hk
    clear hc h1 h
    generalize l[k] = r at c0 c1 c2
    have hb0 := Blk.new w 42 #[.int .i64 0, .int .i64 0, .int .i64 0]
    go_enter Try.func29, Try.ntmps29
    go_wp2_with fail
    refine hI.mono ?_
    rintro e w1 ⟨rfl, hb1⟩
    clear hI
    have g0 := (hb1.cell (p := ⟨b, _, none⟩) hb).trans c0
    have g1 := (hb1.cell (p := ⟨b, _, none⟩) hb).trans c1
    have g2 := (hb1.cell (p := ⟨b, _, none⟩) hb).trans c2
    have B1 := hb0.below hb1 (by simp)
    have q0 := B1.cell 0
    have q1 := B1.cell 1
    have q2 := B1.cell 2
    have f0 := B1.frozen 0
    have f1 := B1.frozen 1
    have f2 := B1.frozen 2
    simp at q0 q1 q2
    have hz1 := hb1.size
    rw [World.size_alloc] at hz1
    have hb2 := hW1.trans (hb1.mono (by simp))
    clear c0 c1 c2 hb hW1 hb1 B1 hb0
    go_wp2
    refine bodyPost_ret (v := .tuple #[.agg #[.int .i64 r.part, .int .i64 r.base, .int .i64 r.size], .bool true]) (by simp [results, Try.results29, go_sem, q0, q1, q2]) rfl ⟨rfl, ?_⟩
    exact ((hb2.setCell (by simp) _).setCell (by simp) _).setCell (by simp) _
  · have hF : findR p l = (⟨0, 0, 0⟩, false) := by simp [findR, hf]
    rw [hi] at hI
    rw [hF]
    clear hi hf hF hp hp1 h h1
    have hb0 := Blk.new w 42 #[.int .i64 0, .int .i64 0, .int .i64 0]
    go_enter Try.func29, Try.ntmps29
    go_wp2_with fail
    refine hI.mono ?_
    rintro e w1 ⟨rfl, hb1⟩
    clear hI
    have B1 := hb0.below hb1 (by simp)
    have q0 := B1.cell 0
    have q1 := B1.cell 1
    have q2 := B1.cell 2
    have f0 := B1.frozen 0
    have f1 := B1.frozen 1
    have f2 := B1.frozen 2
    simp at q0 q1 q2
    have hz1 := hb1.size
    rw [World.size_alloc] at hz1
    have hb2 := hW1.trans (hb1.mono (by simp))
    clear hW1 hb1 B1 hb0
    go_wp2
    refine bodyPost_ret (v := .tuple #[.agg #[.int .i64 0, .int .i64 0, .int .i64 0], .bool false]) (by simp [results, Try.results29, go_sem, q0, q1, q2]) rfl ⟨rfl, ?_⟩
    exact ((hb2.setCell (by simp) _).setCell (by simp) _).setCell (by simp) _

/-- '(l regions) of(part)'. -/
theorem of_c (part : Int) (l : List Reg) (A : Option Addr) (c : Nat) (w : World) (h : RdReg w w.heap.size A l) (hl : l.length ≤ 4611686018427387904) :
    Calls Try.prog 44 #[.slice A l.length c, .int .i64 part] w fun e w' => e = .returned (.tuple #[.agg #[.int .i64 (findR (fun r => r.part == part) l).1.part, .int .i64 (findR (fun r => r.part == part) l).1.base, .int .i64 (findR (fun r => r.part == part) l).1.size], .bool (findR (fun r => r.part == part) l).2]) ∧ Below w.heap.size w w' := by
  have hP := of1_c (w.alloc (.cells #[.int .i64 part] 3)) w.heap.size part (by simp) (by simp)
  have hW1 : Below w.heap.size w ((w.alloc (.cells #[.int .i64 part] 3)).alloc (.cells #[.int .i64 0, .int .i64 0, .int .i64 0] 42)) := ((Below.refl _ w).alloc (Nat.le_refl _) _).alloc (by simp) _
  have hP1 : PredReg 53 #[.pointer (some ⟨w.heap.size, 0, none⟩)] (fun r => r.part == part) ((w.alloc (.cells #[.int .i64 part] 3)).alloc (.cells #[.int .i64 0, .int .i64 0, .int .i64 0] 42)) :=
    fun W r hb => hP W r (((Below.refl _ _).alloc (Nat.le_refl _) _).trans (hb.mono (by simp)))
  have hI := find_c 53 _ _ (enters_of Try.func53 (by kernel_rfl) rfl) l A c _ hP1 (h.below hW1) hl
  have hb0 := Blk.new (w.alloc (.cells #[.int .i64 part] 3)) 42 #[.int .i64 0, .int .i64 0, .int .i64 0]
  simp only [World.size_alloc] at hb0
  generalize findR (fun r => r.part == part) l = q at hI ⊢
  obtain ⟨⟨a0, a1, a2⟩, a3⟩ := q
  clear hP hP1
  go_enter Try.func44, Try.ntmps44
  go_wp2_with fail
  refine hI.mono ?_
  rintro e w1 ⟨rfl, hb1⟩
  clear hI
  have B1 := hb0.below hb1 (by simp)
  have q0 := B1.cell 0
  have q1 := B1.cell 1
  have q2 := B1.cell 2
  have f0 := B1.frozen 0
  have f1 := B1.frozen 1
  have f2 := B1.frozen 2
  simp at q0 q1 q2
  have hz1 := hb1.size
  simp only [World.size_alloc] at hz1
  have hb2 := hW1.trans (hb1.mono (by simp; omega))
  clear hW1 hb1 B1 hb0
  go_wp2
  refine bodyPost_ret (v := .tuple #[.agg #[.int .i64 a0, .int .i64 a1, .int .i64 a2], .bool a3]) (by simp [results, Try.results44, go_sem, q0, q1, q2]) rfl ⟨rfl, ?_⟩
  exact ((hb2.setCell (by simp) _).setCell (by simp) _).setCell (by simp) _

def transV (l : List Reg) (part addr : Int) : Int × Int := match l.find? (fun r => r.part == part) with
  | none => (0, 6)
  | some r => if addr < 0 ∨ r.size ≤ addr then (0, 110) else (wrap64 (r.base + addr), 0)

theorem translate_c (part addr : Int) (l : List Reg) (A : Option Addr) (c : Nat) (w : World) (h : RdReg w w.heap.size A l) (hl : l.length ≤ 4611686018427387904) :
    Calls Try.prog 28 #[.slice A l.length c, .int .i64 part, .int .i64 addr] w fun e w' => e = .returned (.tuple #[.int .i64 (transV l part addr).1, .int .i64 (transV l part addr).2]) ∧ Below w.heap.size w w' := by
  have hI := of_c part l A c w h hl
  clear h
  rcases hf : l.find? (fun r => r.part == part) with _ | r
  · have hT : transV l part addr = (0, 6) := by simp [transV, hf]
    have hF : findR (fun r => r.part == part) l = (⟨0, 0, 0⟩, false) := by simp [findR, hf]
    rw [hF] at hI
    rw [hT]
    clear hF hT hf
    go_enter Try.func28, Try.ntmps28
    go_wp2_with fail
    refine hI.mono ?_
    rintro e w1 ⟨rfl, hb1⟩
    clear hI
    go_wp2
    go_ret2
    exact ⟨rfl, hb1.alloc hb1.size _⟩
  · have hF : findR (fun r => r.part == part) l = (r, true) := by simp [findR, hf]
    rw [hF] at hI
    by_cases h1 : addr < 0
    · have hT : transV l part addr = (0, 110) := by simp [transV, hf, h1]
      rw [hT]
      clear hF hT hf
      go_enter Try.func28, Try.ntmps28
      go_wp2_with fail
      refine hI.mono ?_
      rintro e w1 ⟨rfl, hb1⟩
      clear hI
      go_wp2
      go_ret2
      exact ⟨rfl, hb1.alloc hb1.size _⟩
    by_cases h2 : r.size ≤ addr
    · have hT : transV l part addr = (0, 110) := by simp [transV, hf, h2]
      rw [hT]
      clear hF hT hf
      go_enter Try.func28, Try.ntmps28
      go_wp2_with fail
      refine hI.mono ?_
      rintro e w1 ⟨rfl, hb1⟩
      clear hI
      go_wp2
      go_ret2
      exact ⟨rfl, hb1.alloc hb1.size _⟩
    · have hT : transV l part addr = (wrap64 (r.base + addr), 0) := by simp [transV, hf, h2, h1]
      rw [hT]
      clear hF hT hf
      go_enter Try.func28, Try.ntmps28
      go_wp2_with fail
      refine hI.mono ?_
      rintro e w1 ⟨rfl, hb1⟩
      clear hI
      go_wp2
      go_ret2
      exact ⟨rfl, hb1.alloc hb1.size _⟩

theorem Translate_c (part addr : Int) (l : List Reg) (A : Option Addr) (c : Nat) (w : World) (h : RdReg w w.heap.size A l) (hl : l.length ≤ 4611686018427387904) :
    Calls Try.prog 11 #[.slice A l.length c, .int .i64 part, .int .i64 addr] w fun e w' => e = .returned (.tuple #[.int .i64 (transV l part addr).1, .int .i64 (transV l part addr).2]) ∧ Below w.heap.size w w' := by
  have hI := translate_c part addr l A c w h hl
  clear h
  go_enter Try.func11, Try.ntmps11
  go_wp2_with fail
  refine hI.mono ?_
  rintro e w1 ⟨rfl, hb1⟩
  clear hI
  go_wp2
  go_ret2
  exact ⟨rfl, hb1⟩

def ownV (l : List Reg) (a : Int) : Int × Int × Bool := match l.find? (fun r => r.has a) with
  | none => (0, 0, false)
  | some r => (r.part, wrap64 (a - r.base), true)

theorem Owner_c (a : Int) (l : List Reg) (A : Option Addr) (c : Nat) (w : World) (h : RdReg w w.heap.size A l) (hl : l.length ≤ 4611686018427387904) :
    Calls Try.prog 13 #[.slice A l.length c, .int .i64 a] w fun e w' => e = .returned (.tuple #[.int .i64 (ownV l a).1, .int .i64 (ownV l a).2.1, .bool (ownV l a).2.2]) ∧ Below w.heap.size w w' := by
  have hP := owner1_c (w.alloc (.cells #[.int .i64 a] 3)) w.heap.size a (by simp) (by simp)
  have hW1 : Below w.heap.size w (w.alloc (.cells #[.int .i64 a] 3)) := (Below.refl _ w).alloc (Nat.le_refl _) _
  have hI := find_c 30 _ _ (enters_of Try.func30 (by kernel_rfl) rfl) l A c _ hP (h.below hW1) hl
  clear hP h
  have hb0 := Blk.new w 3 #[.int .i64 a]
  rcases hf : l.find? (fun r => r.has a) with _ | r
  · have hT : ownV l a = (0, 0, false) := by simp [ownV, hf]
    have hF : findR (fun r => r.has a) l = (⟨0, 0, 0⟩, false) := by simp [findR, hf]
    rw [hF] at hI
    rw [hT]
    clear hF hT hf
    go_enter Try.func13, Try.ntmps13
    go_wp2_with fail
    refine hI.mono ?_
    rintro e w1 ⟨rfl, hb1⟩
    clear hI
    go_wp2
    go_ret3
    exact ⟨rfl, (hW1.trans (hb1.mono (by simp))).alloc (by have := hb1.size; simp at this; omega) _⟩
  · have hT : ownV l a = (r.part, wrap64 (a - r.base), true) := by simp [ownV, hf]
    have hF : findR (fun r => r.has a) l = (r, true) := by simp [findR, hf]
    rw [hF] at hI
    rw [hT]
    clear hF hT hf
    go_enter Try.func13, Try.ntmps13
    go_wp2_with fail
    refine hI.mono ?_
    rintro e w1 ⟨rfl, hb1⟩
    clear hI
    have q0 := (hb0.below hb1 (by simp)).cell 0
    simp at q0
    have hz1 := hb1.size
    simp only [World.size_alloc] at hz1
    have hb2 := hW1.trans (hb1.mono (by simp))
    clear hW1 hb1 hb0
    go_wp2
    refine nameW fun W0 hW0 => ?_
    have e1 : W0.cell? ⟨w.heap.size, 0, none⟩ = some (.int .i64 a) := by subst hW0; rw [World.cell?_alloc_lt _ _ _ (by simp; omega)]; exact q0
    have e2 : W0.cell? ⟨w1.heap.size, 0, none⟩ = some (.int .i64 r.part) := by subst hW0; simp
    have e3 : W0.cell? ⟨w1.heap.size, 1, none⟩ = some (.int .i64 r.base) := by subst hW0; simp
    have e4 : Below w.heap.size w W0 := by subst hW0; exact hb2.alloc (by omega) _
    clear hW0 q0 hb2
    go_quiet (fail)
    go_wp2
    go_ret3
    exact ⟨rfl, below_drewN e4 _⟩
end Go.Proofs.Ytjgmdchlgabflaa
