/- A region of PlanSmall: a module of three partitions is made, in any order that the draw allows. -/
import Derived.Test.YtlmbffnmjfbglabTe
import Derived.Test.YtlmbffnmjfbglabSa
import Derived.Deep.DeepCutAuto
import Derived.Deep.CutBlock
set_option linter.unusedSimpArgs false
set_option linter.unusedVariables false
namespace Go.Proofs.Ytlmbffnmjfbglab
open Go.ChangeShapes Go.WideShapes Go.ChangeAt Go.RowKit Go.Deep

abbrev modZ : Array Value := #[.string ⟨#[]⟩, .int .i64 0, .int .i64 0, .slice none 0 0]
theorem mod_cells {W w' : World} {B : Nat} (h : Blk W B 24 modZ) (hb : Below W.heap.size W w') :
    Blk w' B 24 modZ ∧ w'.cell? ⟨B, 0, none⟩ = some (.string ⟨#[]⟩) ∧ w'.cell? ⟨B, 1, none⟩ = some (.int .i64 0) ∧ w'.cell? ⟨B, 2, none⟩ = some (.int .i64 0) ∧ w'.cell? ⟨B, 3, none⟩ = some (.slice none 0 0) ∧
      w'.frozen? ⟨B, 0, none⟩ = false ∧ w'.frozen? ⟨B, 1, none⟩ = false ∧ w'.frozen? ⟨B, 2, none⟩ = false ∧ w'.frozen? ⟨B, 3, none⟩ = false :=
  have hk := h.below hb h.lt
  ⟨hk, hk.cell 0, hk.cell 1, hk.cell 2, hk.cell 3, hk.frozen 0, hk.frozen 1, hk.frozen 2, hk.frozen 3⟩
theorem set4 {w : World} {B b i : Nat} {v0 v1 v2 v3 : Value} (h : b ≠ B) : ((((w.setCell ⟨B, 0, none⟩ v0).setCell ⟨B, 1, none⟩ v1).setCell ⟨B, 2, none⟩ v2).setCell ⟨B, 3, none⟩ v3).cell? ⟨b, i, none⟩ = w.cell? ⟨b, i, none⟩ := by
  rw [World.cell?_setCell_other _ _ _ _ (fun e => h (congrArg Addr.block e).symm), World.cell?_setCell_other _ _ _ _ (fun e => h (congrArg Addr.block e).symm), World.cell?_setCell_other _ _ _ _ (fun e => h (congrArg Addr.block e).symm), World.cell?_setCell_other _ _ _ _ (fun e => h (congrArg Addr.block e).symm)]
/-- the module's box, written behind the call. -/
theorem mod_set {W w' : World} {B : Nat} {A : Option Addr} {c : Nat} {ps : List Part} (hp0 : 0 < ps.length) (h : Blk w' B 24 modZ) (hp : RdPart w' w'.heap.size A ps) (hB : W.heap.size ≤ B) (hb : Below W.heap.size W w') :
    Blk ((((w'.setCell ⟨B, 0, none⟩ (.string ⟨#[]⟩)).setCell ⟨B, 1, none⟩ (.int .i64 0)).setCell ⟨B, 2, none⟩ (.int .i64 12)).setCell ⟨B, 3, none⟩ (.slice A ps.length c)) B 24 #[.string ⟨#[]⟩, .int .i64 0, .int .i64 12, .slice A ps.length c] ∧
    RdPart ((((w'.setCell ⟨B, 0, none⟩ (.string ⟨#[]⟩)).setCell ⟨B, 1, none⟩ (.int .i64 0)).setCell ⟨B, 2, none⟩ (.int .i64 12)).setCell ⟨B, 3, none⟩ (.slice A ps.length c)) ((((w'.setCell ⟨B, 0, none⟩ (.string ⟨#[]⟩)).setCell ⟨B, 1, none⟩ (.int .i64 0)).setCell ⟨B, 2, none⟩ (.int .i64 12)).setCell ⟨B, 3, none⟩ (.slice A ps.length c)).heap.size A ps ∧
    Below W.heap.size W ((((w'.setCell ⟨B, 0, none⟩ (.string ⟨#[]⟩)).setCell ⟨B, 1, none⟩ (.int .i64 0)).setCell ⟨B, 2, none⟩ (.int .i64 12)).setCell ⟨B, 3, none⟩ (.slice A ps.length c)) := by
  refine ⟨(((h.set_ 0 _).set_ 1 _).set_ 2 _).set_ 3 _, ?_, (((hb.setCell (p := ⟨B, 0, none⟩) hB _).setCell (p := ⟨B, 1, none⟩) hB _).setCell (p := ⟨B, 2, none⟩) hB _).setCell (p := ⟨B, 3, none⟩) hB _⟩
  obtain ⟨b, o, rfl, hbB, hc⟩ := hp hp0
  have hne : b ≠ B := by
    rintro rfl
    have h9 := hc 0 hp0 9 _ rfl
    rw [h.cell] at h9
    rw [Array.getElem?_eq_none (by simp [modZ])] at h9
    cases h9
  refine fun _ => ⟨b, o, rfl, by simpa [World.setCell] using hbB, fun i hi j v hv => ?_⟩
  rw [World.cell?_setCell_other _ _ _ _ (fun e => hne (congrArg Addr.block e).symm), World.cell?_setCell_other _ _ _ _ (fun e => hne (congrArg Addr.block e).symm), World.cell?_setCell_other _ _ _ _ (fun e => hne (congrArg Addr.block e).symm), World.cell?_setCell_other _ _ _ _ (fun e => hne (congrArg Addr.block e).symm)]
  exact hc i hi j v hv
theorem tmod_nat (n : Nat) (m : Int) (h : 0 < m) : ∃ k : Nat, (n : Int).tmod m = k ∧ (k : Int) < m := by
  have h1 := Int.emod_nonneg n (show m ≠ 0 by omega)
  have h2 := Int.emod_lt_of_pos n h
  refine ⟨((n : Int) % m).toNat, ?_, by omega⟩
  rw [Int.tmod_eq_emod_of_nonneg (by omega)]; omega
theorem tdiv_nat (n : Nat) (m : Int) (h : 0 < m := by omega) : ∃ k : Nat, (n : Int).tdiv m = k ∧ (k : Int) ≤ n := by
  have h1 : 0 ≤ (n : Int) / m := Int.ediv_nonneg (by omega) (by omega)
  have h2 := Int.ediv_le_self m (show (0 : Int) ≤ n by omega)
  refine ⟨((n : Int) / m).toNat, ?_, by omega⟩
  rw [Int.tdiv_eq_ediv_of_nonneg (by omega)]; omega
mutual
theorem sm_size {N : Nat} : ∀ (y : Claim), y.subN ≤ N → y.sm N
  | .mk _ _ _ s, h => by
    simp only [Claim.subN] at h
    simp only [Claim.sm]
    exact ⟨Nat.le_trans (sizeL_len s) h, smL_size s h⟩
theorem smL_size {N : Nat} : ∀ (l : List Claim), sizeL l ≤ N → smL N l
  | [], _ => by simp only [smL]
  | y :: r, h => by
    simp only [sizeL] at h
    simp only [smL]
    exact ⟨sm_size y (by omega), smL_size r (by omega)⟩
end
/-- Plan at a module that the statements made. -/
theorem plansG_c (F : Int) (ss : List Int) (A : Option Addr) (c : Nat) (W : World) (h : RdPart W W.heap.size A (pairs ss)) (hn : (pairs ss).length ≤ 6) (hc : (pairs ss).length ≤ c ∧ c ≤ maxLen) :
    Calls Try.prog 14 #[.agg #[.string ⟨#[]⟩, .int .i64 0, .int .i64 F, .slice A (pairs ss).length c]] W fun e w' => e = .returned (.bool true) ∧ Below W.heap.size W w' := by
  obtain ⟨h1, h2⟩ := parts_G (c := c) h (bare_pairs ss) (by omega) hc
  exact plans_c ⟨#[]⟩ 0 F _ _ W h1 h2
theorem checksG_c (F : Int) (ss : List Int) (A : Option Addr) (c : Nat) (os : List Int) (Ao : Option Addr) (co : Nat) (x : Int) (l : List Claim) (Al : Option Addr) (cl : Nat) (W : World) (h : RdPart W W.heap.size A (pairs ss)) (hn : (pairs ss).length ≤ 6) (ho : RdInt W W.heap.size Ao os) (hco : os.length ≤ co) (hlo : os.length ≤ 1000) (hk : RdK W Al l) (hl : sizeL l ≤ 100000) :
    Calls Try.prog 24 #[.agg #[.string ⟨#[]⟩, .int .i64 0, .int .i64 F, .slice A (pairs ss).length c], .slice Ao os.length co, .int .i64 x, .slice Al l.length cl] W fun e w' => e = .returned (.bool true) ∧ Below W.heap.size W w' :=
  checks_c ⟨#[]⟩ 0 F (pairs ss) A c os Ao co x l Al cl W h ho hk hco (by omega) hlo (by have := sizeL_len l; unfold maxC; omega) (smL_size l (by unfold maxC; omega))
/-- what a round looks at: a module in its box. -/
structure SM (W0 : World) (Bm : Nat) (A : Option Addr) (c : Nat) (ss : List Int) (W : World) : Prop where
  bm : Blk W Bm 24 #[.string ⟨#[]⟩, .int .i64 0, .int .i64 12, .slice A (pairs ss).length c]
  pt : RdPart W W.heap.size A (pairs ss)
  n : (pairs ss).length ≤ 6
  cap : (pairs ss).length ≤ c ∧ c ≤ maxLen
  hb : Below W0.heap.size W0 W
theorem SM.next {W0 : World} {Bm : Nat} {A : Option Addr} {c : Nat} {ss : List Int} {W W' : World} (h : SM W0 Bm A c ss W) (hb : Below W.heap.size W W') : SM W0 Bm A c ss W' :=
  ⟨h.bm.below hb h.bm.lt, h.pt.below hb, h.n, h.cap, h.hb.trans (hb.mono h.hb.size)⟩
theorem Spot.same {w w' : World} {A : Option Addr} {l : List Claim} {bd jd : Nat} {x : CV} {y : Claim} {a b : Nat} {L2 : List CV} (h : Spot w A l bd jd x y a b L2) (hh : w'.heap = w.heap) : Spot w' A l bd jd x y a b L2 := by
  have hc : ∀ p, w'.cell? p = w.cell? p := fun p => by unfold World.cell?; rw [hh]
  have hb : ∀ n : Nat, w'.heap[n]? = w.heap[n]? := fun n => by rw [hh]
  obtain ⟨v1, v2, v3, v4, v5, v6, v7⟩ := h.val
  refine ⟨?_, fun j v hv => by rw [hc]; exact h.cells j v hv, h.hab, by rw [hh]; exact h.hb, h.apart, ⟨v1, v2, v3, v4, v5, v6, v7.keep fun n hn => ⟨fun o => hc _, hn⟩⟩, ownsRow_keep h.own fun g _ => hb g, h.ownlt, h.ow.keep fun n _ _ _ => hb n, fun W x' y' hs h1 h2 h3 h4 => h.close W x' y' (by rw [← hh]; exact hs) (fun n n1 n2 n3 => by rw [← hb]; exact h1 n (by rw [hh]; exact n1) n2 n3) (fun i hi => by rw [← hc]; exact h2 i hi) h3 h4⟩
  obtain ⟨cs, hbk⟩ := h.blk
  exact ⟨cs, (hb bd).trans hbk⟩
/-- a cell set to what it holds. -/
theorem setCell_id {w : World} {b t : Nat} {cs : Array Value} {i : Nat} {v : Value} (h : Blk w b t cs) (hv : cs[i]? = some v) : w.setCell ⟨b, i, none⟩ v = w := by
  have hlt := h.lt
  have hb : w.heap[b] = .cells cs t (0, 0) := (Array.getElem?_eq_some_iff.1 h).2
  have hc : cs.setIfInBounds i v = cs := by
    apply Array.ext_getElem?
    intro j
    by_cases e : i = j
    · subst e
      rw [Array.getElem?_setIfInBounds_self_of_lt (Array.getElem?_eq_some_iff.1 hv).1, hv]
    · rw [Array.getElem?_setIfInBounds_ne e]
  have hh : (w.setCell ⟨b, i, none⟩ v).heap = w.heap := by
    apply Array.ext_getElem?
    intro j
    unfold World.setCell
    simp only [Array.getElem?_modify]
    by_cases e : b = j
    · subst e
      rw [if_pos rfl, Array.getElem?_eq_getElem hlt, hb]
      simp [hc]
    · rw [if_neg e]
  have : w.setCell ⟨b, i, none⟩ v = { w with heap := (w.setCell ⟨b, i, none⟩ v).heap } := rfl
  rw [this, hh]

theorem app_same {w : World} {g N : Nat} {cur : Array Value} (hbk : Blk w g 35 cur) (z0 : cur[N * 4]? = some (.int .i64 0)) (z1 : cur[N * 4 + 1]? = some (.int .i64 0)) (z2 : cur[N * 4 + 2]? = some (.int .i64 0)) (z3 : cur[N * 4 + 3]? = some (.slice none 0 0)) :
    (((w.setCell ⟨g, N * 4, none⟩ (.int .i64 0)).setCell ⟨g, N * 4 + 1, none⟩ (.int .i64 0)).setCell ⟨g, N * 4 + 2, none⟩ (.int .i64 0)).setCell ⟨g, N * 4 + 3, none⟩ (.slice none 0 0) = w := by
  rw [setCell_id hbk z0, setCell_id hbk z1, setCell_id hbk z2, setCell_id hbk z3]
/-- what the walk needs behind an append of a zero claim. -/
theorem app_facts {w1 w2 : World} {bd i a N g cap : Nat} {cs : Array Value} {V : Value} {xs : List Value} {u : Value} (hxs : xs.length = N * 4) (hbk : Blk w1 bd 35 cs) (hc : w1.cell? ⟨bd, i, none⟩ = some u) (hob : ∀ g, V.ownBlock = some g → g ≠ bd)
    (hown : w2.ownsRow a 35 4 (.slice (some ⟨g, 0, none⟩) (N + 1) cap) (N + 1) (xs ++ [.int .i64 0, .int .i64 0, .int .i64 0, .slice none 0 0])) (hgr : w1.grownBy w2 V.ownBlock) (hg : V.ownBlock = some g ∨ g = w1.heap.size) :
    g ≠ bd ∧ bd ≠ g ∧ w2.cell? ⟨g, N * 4, none⟩ = some (.int .i64 0) ∧ w2.cell? ⟨g, N * 4 + 1, none⟩ = some (.int .i64 0) ∧ w2.cell? ⟨g, N * 4 + 2, none⟩ = some (.int .i64 0) ∧ w2.cell? ⟨g, N * 4 + 3, none⟩ = some (.slice none 0 0) ∧
      (∀ j, w2.frozen? ⟨g, j, none⟩ = false) ∧ w2.cell? ⟨bd, i, none⟩ = some u ∧ w2.frozen? ⟨bd, i, none⟩ = false ∧ Hid (∃ cur, Blk w2 g 35 cur ∧ cur[N * 4]? = some (.int .i64 0) ∧ cur[N * 4 + 1]? = some (.int .i64 0) ∧ cur[N * 4 + 2]? = some (.int .i64 0) ∧ cur[N * 4 + 3]? = some (.slice none 0 0)) := by
  have hgb : g ≠ bd := by
    rcases hg with hg | hg
    · exact hob g hg
    · have := hbk.lt; omega
  have hc2 : ∀ j v, ([.int .i64 0, .int .i64 0, .int .i64 0, .slice none 0 0] : List Value)[j]? = some v → w2.cell? ⟨g, N * 4 + j, none⟩ = some v := fun j v hv => by
    have := hown.cells (g := g) rfl (N * 4 + j) v (by rw [List.getElem?_append_right (by omega), hxs, show N * 4 + j - N * 4 = j by omega]; exact hv)
    rw [add_none] at this
    simpa using this
  have hb2 : Blk w2 bd 35 cs := (hgr.block bd hbk.lt (fun e => hob bd e.symm rfl)).trans hbk
  obtain ⟨g9, cap9, cur, e9, _, hbk2, _⟩ := own_form hown (by omega)
  injection e9 with e9
  injection e9 with e9
  injection e9 with e9
  subst e9
  have z0 := hc2 0 _ rfl
  have z1 := hc2 1 _ rfl
  have z2 := hc2 2 _ rfl
  have z3 := hc2 3 _ rfl
  rw [Nat.add_zero] at z0
  refine ⟨hgb, Ne.symm hgb, z0, z1, z2, z3, fun j => hbk2.frozen j, ?_, hb2.frozen i, cur, hbk2, ?_, ?_, ?_, ?_⟩
  · rw [hb2.cell, ← hbk.cell]; exact hc
  · rw [← hbk2.cell]; exact z0
  · rw [← hbk2.cell]; exact z1
  · rw [← hbk2.cell]; exact z2
  · rw [← hbk2.cell]; exact z3

/-- a region of PlanSmall. -/
noncomputable def reg7 (id : Nat) : Code := (Try.f7.body.bind (regAt id)).getD .skip
set_option maxRecDepth 100000 in
set_option maxHeartbeats 8000000 in
theorem reg7_5_c (W0 wr : World) (Bp n : Nat) (pl : List Int) (hpl : pl.length = 5) (hp8 : Blk wr Bp 3 (pl.map (Value.int .i64)).toArray) (hn1 : n < 8000) (hB8 : Below W0.heap.size W0 wr) {x0 x3 x4 x5 x6 x7 x8 x9 x10 x11 x12 x13 x14 x15 x16 x17 x18 x19 x20 x21 x22 x23 x24 x25 x26 x27 x28 x29 x30 x31 x32 x33 x34 x35 x36 x37 x38 x39 x40 x41 x42 x43 x44 x45 x46 x47 x48 x49 x50 x51 x52 x53 x54 x55 x56 x57 x58 x59 x60 x61 x62 x63 x64 x65 x66 x67 x68 x69 x70 x71 x72 x73 x74 x75 x76 x77 x78 x79 x80 x81 x82 x83 x84 x85 x86 x87 x88 x89 x90 x91 x92 x93 x94 x95 x96 x97 x98 x99 x100 x101 x102 x103 x104 x105 x106 x107 x108 x109 x110 x111 x112 x113 x114 x115 x116 x117 x118 x119 x120 x121 x122 x123 x124 x125 x126 x127 x128 x129 x130 x131 x132 x133 x134 x135 x136 x137 x138 x139 x140 x141 x142 x143 x144 x145 x146 x147 x148 x149 x150 x151 x152 x153 x154 x155 x156 x157 x158 x159 x160 x161 x162 x163 x164 x165 x166 x167 x168 x169 x170 x171 x172 x173 x174 x175 x176 x177 x178 x179 x180 x181 x182 x183 x184 x185 x186 x187 x188 x189 x190 x191 x192 x193 x194 x195 x196 x197 x198 x199 x200 x201 x202 x203 x204 x205 x206 x207 x208 x209 x210 x211 x212 x213 x214 x215 x216 x217 x218 x219 x220 x221 x222 : Value} (Q : Exit → Act → World → Prop) (hP0 : ∀ d v c a w, Q (.panic c) (Act.put a d v) w → Q (.panic c) a w)
    (hN : ∀ (y17 y18 y19 y20 y21 y22 y23 y24 y25 y26 y27 y28 y29 y30 y31 y32 y33 y34 y35 y36 y37 y38 y39 y40 y41 y42 y43 y44 y45 y46 y47 : Value) (Bm : Nat) (A9 : Option Addr) (c9 : Nat) (ss : List Int) (W' : World), SM W0 Bm A9 c9 ss W' → Q .normal { tmps := List.toArray (x0 :: Value.slice (some ⟨Bp, 0, none⟩) 5 5 :: Value.int .i64 n :: Value.pointer (some ⟨Bm, 0, none⟩) :: x4 :: x5 :: x6 :: x7 :: x8 :: x9 :: x10 :: x11 :: x12 :: x13 :: x14 :: x15 :: x16 :: y17 :: y18 :: y19 :: y20 :: y21 :: y22 :: y23 :: y24 :: y25 :: y26 :: y27 :: y28 :: y29 :: y30 :: y31 :: y32 :: y33 :: y34 :: y35 :: y36 :: y37 :: y38 :: y39 :: y40 :: y41 :: y42 :: y43 :: y44 :: y45 :: y46 :: y47 :: x48 :: x49 :: x50 :: x51 :: x52 :: x53 :: x54 :: x55 :: x56 :: x57 :: x58 :: x59 :: x60 :: x61 :: x62 :: x63 :: x64 :: x65 :: x66 :: x67 :: x68 :: x69 :: x70 :: x71 :: x72 :: x73 :: x74 :: x75 :: x76 :: x77 :: x78 :: x79 :: x80 :: x81 :: x82 :: x83 :: x84 :: x85 :: x86 :: x87 :: x88 :: x89 :: x90 :: x91 :: x92 :: x93 :: x94 :: x95 :: x96 :: x97 :: x98 :: x99 :: x100 :: x101 :: x102 :: x103 :: x104 :: x105 :: x106 :: x107 :: x108 :: x109 :: x110 :: x111 :: x112 :: x113 :: x114 :: x115 :: x116 :: x117 :: x118 :: x119 :: x120 :: x121 :: x122 :: x123 :: x124 :: x125 :: x126 :: x127 :: x128 :: x129 :: x130 :: x131 :: x132 :: x133 :: x134 :: x135 :: x136 :: x137 :: x138 :: x139 :: x140 :: x141 :: x142 :: x143 :: x144 :: x145 :: x146 :: x147 :: x148 :: x149 :: x150 :: x151 :: x152 :: x153 :: x154 :: x155 :: x156 :: x157 :: x158 :: x159 :: x160 :: x161 :: x162 :: x163 :: x164 :: x165 :: x166 :: x167 :: x168 :: x169 :: x170 :: x171 :: x172 :: x173 :: x174 :: x175 :: x176 :: x177 :: x178 :: x179 :: x180 :: x181 :: x182 :: x183 :: x184 :: x185 :: x186 :: x187 :: x188 :: x189 :: x190 :: x191 :: x192 :: x193 :: x194 :: x195 :: x196 :: x197 :: x198 :: x199 :: x200 :: x201 :: x202 :: x203 :: x204 :: x205 :: x206 :: x207 :: x208 :: x209 :: x210 :: x211 :: x212 :: x213 :: x214 :: x215 :: x216 :: x217 :: x218 :: x219 :: x220 :: x221 :: x222 :: []), defers := [] } W') :
    (reg7 5).wp Try.prog Q { tmps := List.toArray (x0 :: Value.slice (some ⟨Bp, 0, none⟩) 5 5 :: Value.int .i64 n :: x3 :: x4 :: x5 :: x6 :: x7 :: x8 :: x9 :: x10 :: x11 :: x12 :: x13 :: x14 :: x15 :: x16 :: x17 :: x18 :: x19 :: x20 :: x21 :: x22 :: x23 :: x24 :: x25 :: x26 :: x27 :: x28 :: x29 :: x30 :: x31 :: x32 :: x33 :: x34 :: x35 :: x36 :: x37 :: x38 :: x39 :: x40 :: x41 :: x42 :: x43 :: x44 :: x45 :: x46 :: x47 :: x48 :: x49 :: x50 :: x51 :: x52 :: x53 :: x54 :: x55 :: x56 :: x57 :: x58 :: x59 :: x60 :: x61 :: x62 :: x63 :: x64 :: x65 :: x66 :: x67 :: x68 :: x69 :: x70 :: x71 :: x72 :: x73 :: x74 :: x75 :: x76 :: x77 :: x78 :: x79 :: x80 :: x81 :: x82 :: x83 :: x84 :: x85 :: x86 :: x87 :: x88 :: x89 :: x90 :: x91 :: x92 :: x93 :: x94 :: x95 :: x96 :: x97 :: x98 :: x99 :: x100 :: x101 :: x102 :: x103 :: x104 :: x105 :: x106 :: x107 :: x108 :: x109 :: x110 :: x111 :: x112 :: x113 :: x114 :: x115 :: x116 :: x117 :: x118 :: x119 :: x120 :: x121 :: x122 :: x123 :: x124 :: x125 :: x126 :: x127 :: x128 :: x129 :: x130 :: x131 :: x132 :: x133 :: x134 :: x135 :: x136 :: x137 :: x138 :: x139 :: x140 :: x141 :: x142 :: x143 :: x144 :: x145 :: x146 :: x147 :: x148 :: x149 :: x150 :: x151 :: x152 :: x153 :: x154 :: x155 :: x156 :: x157 :: x158 :: x159 :: x160 :: x161 :: x162 :: x163 :: x164 :: x165 :: x166 :: x167 :: x168 :: x169 :: x170 :: x171 :: x172 :: x173 :: x174 :: x175 :: x176 :: x177 :: x178 :: x179 :: x180 :: x181 :: x182 :: x183 :: x184 :: x185 :: x186 :: x187 :: x188 :: x189 :: x190 :: x191 :: x192 :: x193 :: x194 :: x195 :: x196 :: x197 :: x198 :: x199 :: x200 :: x201 :: x202 :: x203 :: x204 :: x205 :: x206 :: x207 :: x208 :: x209 :: x210 :: x211 :: x212 :: x213 :: x214 :: x215 :: x216 :: x217 :: x218 :: x219 :: x220 :: x221 :: x222 :: []), defers := [] } wr := by
  have HN := Lib.hid hN
  have Hpl := Lib.hid hpl
  have hpz := hp8.lt
  have hn0 : (0 : Int) ≤ (n : Int) := by omega
  clear hN hpl
  conv => arg 2; whnf
  obtain ⟨i1, m1, hi1⟩ := tmod_nat n 5 (by omega)
  obtain ⟨j2, m2, hj2⟩ := tdiv_nat n 125
  obtain ⟨i2, m3, hi2⟩ := tmod_nat j2 4 (by omega)
  obtain ⟨j3, m4, hj3⟩ := tdiv_nat n 5
  obtain ⟨i3, m5, hi3⟩ := tmod_nat j3 5 (by omega)
  obtain ⟨j4, m6, hj4⟩ := tdiv_nat n 500
  obtain ⟨i4, m7, hi4⟩ := tmod_nat j4 4 (by omega)
  obtain ⟨j5, m8, hj5⟩ := tdiv_nat n 25
  obtain ⟨i5, m9, hi5⟩ := tmod_nat j5 5 (by omega)
  obtain ⟨j6, m10, hj6⟩ := tdiv_nat n 2000
  obtain ⟨i6, m11, hi6⟩ := tmod_nat j6 4 (by omega)
  have e1 : wr.cell? ⟨Bp, i1, none⟩ = some (.int .i64 (pl[i1]'(by have := Hpl.out; omega))) := by rw [hp8.cell i1]; simp [Hpl.out, show i1 < 5 by omega]
  have e3 : wr.cell? ⟨Bp, i3, none⟩ = some (.int .i64 (pl[i3]'(by have := Hpl.out; omega))) := by rw [hp8.cell i3]; simp [Hpl.out, show i3 < 5 by omega]
  have e5 : wr.cell? ⟨Bp, i5, none⟩ = some (.int .i64 (pl[i5]'(by have := Hpl.out; omega))) := by rw [hp8.cell i5]; simp [Hpl.out, show i5 < 5 by omega]
  generalize pl[i1]'(by have := Hpl.out; omega) = v1 at e1
  generalize pl[i3]'(by have := Hpl.out; omega) = v3 at e3
  generalize pl[i5]'(by have := Hpl.out; omega) = v5 at e5
  have a1 : (0 : Int) ≤ (i1 : Int) := by omega
  have a2 : (0 : Int) ≤ (i2 : Int) := by omega
  have a3 : (0 : Int) ≤ (i3 : Int) := by omega
  have a4 : (0 : Int) ≤ (i4 : Int) := by omega
  have a5 : (0 : Int) ≤ (i5 : Int) := by omega
  have a6 : (0 : Int) ≤ (i6 : Int) := by omega
  have b2 : (j2 : Int) ≤ 8002 := by omega
  have b3 : (j3 : Int) ≤ 8002 := by omega
  have b4 : (j4 : Int) ≤ 8002 := by omega
  have b5 : (j5 : Int) ≤ 8002 := by omega
  have b6 : (j6 : Int) ≤ 8002 := by omega
  have wi1 := IntWalk.i64_in (i1 : Int) (by omega)
  have wi2 := IntWalk.i64_in (i2 : Int) (by omega)
  have wi3 := IntWalk.i64_in (i3 : Int) (by omega)
  have wi4 := IntWalk.i64_in (i4 : Int) (by omega)
  have wi5 := IntWalk.i64_in (i5 : Int) (by omega)
  have wi6 := IntWalk.i64_in (i6 : Int) (by omega)
  have wj2 := IntWalk.i64_in (j2 : Int) (by omega)
  have wj3 := IntWalk.i64_in (j3 : Int) (by omega)
  have wj4 := IntWalk.i64_in (j4 : Int) (by omega)
  have wj5 := IntWalk.i64_in (j5 : Int) (by omega)
  have wj6 := IntWalk.i64_in (j6 : Int) (by omega)
  have wk2 := IntWalk.i64_in (1 + (i2 : Int)) (by omega)
  have wk4 := IntWalk.i64_in (1 + (i4 : Int)) (by omega)
  have wk6 := IntWalk.i64_in (1 + (i6 : Int)) (by omega)
  have hmcA : Calls Try.prog 25 #[.int .i64 12, .slice (some ⟨wr.heap.size, 0, none⟩) 6 6] (wr.alloc (.cells #[.int .i64 v1, .int .i64 (1 + (i2 : Int)), .int .i64 v3, .int .i64 (1 + (i4 : Int)), .int .i64 v5, .int .i64 (1 + (i6 : Int))] 3)).drew (RetModG (wr.alloc (.cells #[.int .i64 v1, .int .i64 (1 + (i2 : Int)), .int .i64 v3, .int .i64 (1 + (i4 : Int)), .int .i64 v5, .int .i64 (1 + (i6 : Int))] 3)).drew 12 (pairs [v1, 1 + (i2 : Int), v3, 1 + (i4 : Int), v5, 1 + (i6 : Int)])) :=
    moduleG_c 12 [v1, 1 + (i2 : Int), v3, 1 + (i4 : Int), v5, 1 + (i6 : Int)] _ 6 _ (RdInt.blk (l := [v1, 1 + (i2 : Int), v3, 1 + (i4 : Int), v5, 1 + (i6 : Int)]) (show Blk (wr.alloc (.cells #[.int .i64 v1, .int .i64 (1 + (i2 : Int)), .int .i64 v3, .int .i64 (1 + (i4 : Int)), .int .i64 v5, .int .i64 (1 + (i6 : Int))] 3)).drew (wr.heap.size) 3 _ from Blk.new wr 3 _)) (by simp)
  have hmcB : Calls Try.prog 25 #[.int .i64 12, .slice (some ⟨wr.heap.size, 0, none⟩) 6 6] ((wr.alloc (.cells #[.int .i64 v1, .int .i64 (1 + (i2 : Int)), .int .i64 v3, .int .i64 (1 + (i4 : Int)), .int .i64 v5, .int .i64 (1 + (i6 : Int))] 3)).alloc (.cells #[.string ⟨#[]⟩, .int .i64 0, .int .i64 0, .slice none 0 0] 24)).drew (RetModG ((wr.alloc (.cells #[.int .i64 v1, .int .i64 (1 + (i2 : Int)), .int .i64 v3, .int .i64 (1 + (i4 : Int)), .int .i64 v5, .int .i64 (1 + (i6 : Int))] 3)).alloc (.cells #[.string ⟨#[]⟩, .int .i64 0, .int .i64 0, .slice none 0 0] 24)).drew 12 (pairs [v1, 1 + (i2 : Int), v3, 1 + (i4 : Int), v5, 1 + (i6 : Int)])) :=
    moduleG_c 12 [v1, 1 + (i2 : Int), v3, 1 + (i4 : Int), v5, 1 + (i6 : Int)] _ 6 _ (RdInt.blk (l := [v1, 1 + (i2 : Int), v3, 1 + (i4 : Int), v5, 1 + (i6 : Int)]) (show Blk ((wr.alloc (.cells #[.int .i64 v1, .int .i64 (1 + (i2 : Int)), .int .i64 v3, .int .i64 (1 + (i4 : Int)), .int .i64 v5, .int .i64 (1 + (i6 : Int))] 3)).alloc (.cells #[.string ⟨#[]⟩, .int .i64 0, .int .i64 0, .slice none 0 0] 24)).drew (wr.heap.size) 3 _ from (Blk.new wr 3 _).alloc _)) (by simp)
  have hmcC : Calls Try.prog 25 #[.int .i64 12, .slice (some ⟨wr.heap.size + 1, 0, none⟩) 6 6] ((wr.alloc (.cells #[.string ⟨#[]⟩, .int .i64 0, .int .i64 0, .slice none 0 0] 24)).alloc (.cells #[.int .i64 v1, .int .i64 (1 + (i2 : Int)), .int .i64 v3, .int .i64 (1 + (i4 : Int)), .int .i64 v5, .int .i64 (1 + (i6 : Int))] 3)).drew (RetModG ((wr.alloc (.cells #[.string ⟨#[]⟩, .int .i64 0, .int .i64 0, .slice none 0 0] 24)).alloc (.cells #[.int .i64 v1, .int .i64 (1 + (i2 : Int)), .int .i64 v3, .int .i64 (1 + (i4 : Int)), .int .i64 v5, .int .i64 (1 + (i6 : Int))] 3)).drew 12 (pairs [v1, 1 + (i2 : Int), v3, 1 + (i4 : Int), v5, 1 + (i6 : Int)])) :=
    moduleG_c 12 [v1, 1 + (i2 : Int), v3, 1 + (i4 : Int), v5, 1 + (i6 : Int)] _ 6 _ (RdInt.blk (l := [v1, 1 + (i2 : Int), v3, 1 + (i4 : Int), v5, 1 + (i6 : Int)]) (show Blk ((wr.alloc (.cells #[.string ⟨#[]⟩, .int .i64 0, .int .i64 0, .slice none 0 0] 24)).alloc (.cells #[.int .i64 v1, .int .i64 (1 + (i2 : Int)), .int .i64 v3, .int .i64 (1 + (i4 : Int)), .int .i64 v5, .int .i64 (1 + (i6 : Int))] 3)).drew (wr.heap.size + 1) 3 _ from by have := Blk.new (wr.alloc (.cells #[.string ⟨#[]⟩, .int .i64 0, .int .i64 0, .slice none 0 0] 24)) 3 #[.int .i64 v1, .int .i64 (1 + (i2 : Int)), .int .i64 v3, .int .i64 (1 + (i4 : Int)), .int .i64 v5, .int .i64 (1 + (i6 : Int))]; rw [World.size_alloc] at this; exact this)) (by simp)
  have HkA := Lib.hid (fun w' (hb' : Below (wr.alloc (.cells #[.int .i64 v1, .int .i64 (1 + (i2 : Int)), .int .i64 v3, .int .i64 (1 + (i4 : Int)), .int .i64 v5, .int .i64 (1 + (i6 : Int))] 3)).drew.heap.size (wr.alloc (.cells #[.int .i64 v1, .int .i64 (1 + (i2 : Int)), .int .i64 v3, .int .i64 (1 + (i4 : Int)), .int .i64 v5, .int .i64 (1 + (i6 : Int))] 3)).drew w') =>
    have hz : Bp < (wr.alloc (.cells #[.int .i64 v1, .int .i64 (1 + (i2 : Int)), .int .i64 v3, .int .i64 (1 + (i4 : Int)), .int .i64 v5, .int .i64 (1 + (i6 : Int))] 3)).drew.heap.size := by show _ < (World.alloc _ _).heap.size; simp; omega
    And.intro ((hb'.cell (p := ⟨Bp, i1, none⟩) hz).trans (((World.cell?_alloc_lt wr _ _ (by simp; omega))).trans e1)) (And.intro ((hb'.cell (p := ⟨Bp, i3, none⟩) hz).trans (((World.cell?_alloc_lt wr _ _ (by simp; omega))).trans e3)) ((hb'.cell (p := ⟨Bp, i5, none⟩) hz).trans (((World.cell?_alloc_lt wr _ _ (by simp; omega))).trans e5))))
  have HkB := Lib.hid (fun w' (hb' : Below ((wr.alloc (.cells #[.int .i64 v1, .int .i64 (1 + (i2 : Int)), .int .i64 v3, .int .i64 (1 + (i4 : Int)), .int .i64 v5, .int .i64 (1 + (i6 : Int))] 3)).alloc (.cells #[.string ⟨#[]⟩, .int .i64 0, .int .i64 0, .slice none 0 0] 24)).drew.heap.size ((wr.alloc (.cells #[.int .i64 v1, .int .i64 (1 + (i2 : Int)), .int .i64 v3, .int .i64 (1 + (i4 : Int)), .int .i64 v5, .int .i64 (1 + (i6 : Int))] 3)).alloc (.cells #[.string ⟨#[]⟩, .int .i64 0, .int .i64 0, .slice none 0 0] 24)).drew w') =>
    have hz : Bp < ((wr.alloc (.cells #[.int .i64 v1, .int .i64 (1 + (i2 : Int)), .int .i64 v3, .int .i64 (1 + (i4 : Int)), .int .i64 v5, .int .i64 (1 + (i6 : Int))] 3)).alloc (.cells #[.string ⟨#[]⟩, .int .i64 0, .int .i64 0, .slice none 0 0] 24)).drew.heap.size := by show _ < (World.alloc _ _).heap.size; simp; omega
    And.intro ((hb'.cell (p := ⟨Bp, i1, none⟩) hz).trans (((World.cell?_alloc_lt (wr.alloc (.cells #[.int .i64 v1, .int .i64 (1 + (i2 : Int)), .int .i64 v3, .int .i64 (1 + (i4 : Int)), .int .i64 v5, .int .i64 (1 + (i6 : Int))] 3)) _ _ (by simp; omega)).trans (World.cell?_alloc_lt wr _ _ (by simp; omega))).trans e1)) (And.intro ((hb'.cell (p := ⟨Bp, i3, none⟩) hz).trans (((World.cell?_alloc_lt (wr.alloc (.cells #[.int .i64 v1, .int .i64 (1 + (i2 : Int)), .int .i64 v3, .int .i64 (1 + (i4 : Int)), .int .i64 v5, .int .i64 (1 + (i6 : Int))] 3)) _ _ (by simp; omega)).trans (World.cell?_alloc_lt wr _ _ (by simp; omega))).trans e3)) ((hb'.cell (p := ⟨Bp, i5, none⟩) hz).trans (((World.cell?_alloc_lt (wr.alloc (.cells #[.int .i64 v1, .int .i64 (1 + (i2 : Int)), .int .i64 v3, .int .i64 (1 + (i4 : Int)), .int .i64 v5, .int .i64 (1 + (i6 : Int))] 3)) _ _ (by simp; omega)).trans (World.cell?_alloc_lt wr _ _ (by simp; omega))).trans e5))))
  have HkC := Lib.hid (fun w' (hb' : Below ((wr.alloc (.cells #[.string ⟨#[]⟩, .int .i64 0, .int .i64 0, .slice none 0 0] 24)).alloc (.cells #[.int .i64 v1, .int .i64 (1 + (i2 : Int)), .int .i64 v3, .int .i64 (1 + (i4 : Int)), .int .i64 v5, .int .i64 (1 + (i6 : Int))] 3)).drew.heap.size ((wr.alloc (.cells #[.string ⟨#[]⟩, .int .i64 0, .int .i64 0, .slice none 0 0] 24)).alloc (.cells #[.int .i64 v1, .int .i64 (1 + (i2 : Int)), .int .i64 v3, .int .i64 (1 + (i4 : Int)), .int .i64 v5, .int .i64 (1 + (i6 : Int))] 3)).drew w') =>
    have hz : Bp < ((wr.alloc (.cells #[.string ⟨#[]⟩, .int .i64 0, .int .i64 0, .slice none 0 0] 24)).alloc (.cells #[.int .i64 v1, .int .i64 (1 + (i2 : Int)), .int .i64 v3, .int .i64 (1 + (i4 : Int)), .int .i64 v5, .int .i64 (1 + (i6 : Int))] 3)).drew.heap.size := by show _ < (World.alloc _ _).heap.size; simp; omega
    And.intro ((hb'.cell (p := ⟨Bp, i1, none⟩) hz).trans (((World.cell?_alloc_lt (wr.alloc (.cells #[.string ⟨#[]⟩, .int .i64 0, .int .i64 0, .slice none 0 0] 24)) _ _ (by simp; omega)).trans (World.cell?_alloc_lt wr _ _ (by simp; omega))).trans e1)) (And.intro ((hb'.cell (p := ⟨Bp, i3, none⟩) hz).trans (((World.cell?_alloc_lt (wr.alloc (.cells #[.string ⟨#[]⟩, .int .i64 0, .int .i64 0, .slice none 0 0] 24)) _ _ (by simp; omega)).trans (World.cell?_alloc_lt wr _ _ (by simp; omega))).trans e3)) ((hb'.cell (p := ⟨Bp, i5, none⟩) hz).trans (((World.cell?_alloc_lt (wr.alloc (.cells #[.string ⟨#[]⟩, .int .i64 0, .int .i64 0, .slice none 0 0] 24)) _ _ (by simp; omega)).trans (World.cell?_alloc_lt wr _ _ (by simp; omega))).trans e5))))
  have hq1 : Bp ≠ wr.heap.size + 1 := by omega
  have hq2 : Bp ≠ wr.heap.size := by omega
  have HmB := Lib.hid (fun w' (hb' : Below ((wr.alloc (.cells #[.int .i64 v1, .int .i64 (1 + (i2 : Int)), .int .i64 v3, .int .i64 (1 + (i4 : Int)), .int .i64 v5, .int .i64 (1 + (i6 : Int))] 3)).alloc (.cells #[.string ⟨#[]⟩, .int .i64 0, .int .i64 0, .slice none 0 0] 24)).drew.heap.size ((wr.alloc (.cells #[.int .i64 v1, .int .i64 (1 + (i2 : Int)), .int .i64 v3, .int .i64 (1 + (i4 : Int)), .int .i64 v5, .int .i64 (1 + (i6 : Int))] 3)).alloc (.cells #[.string ⟨#[]⟩, .int .i64 0, .int .i64 0, .slice none 0 0] 24)).drew w') => mod_cells (B := wr.heap.size + 1) (show Blk ((wr.alloc (.cells #[.int .i64 v1, .int .i64 (1 + (i2 : Int)), .int .i64 v3, .int .i64 (1 + (i4 : Int)), .int .i64 v5, .int .i64 (1 + (i6 : Int))] 3)).alloc (.cells #[.string ⟨#[]⟩, .int .i64 0, .int .i64 0, .slice none 0 0] 24)).drew (wr.heap.size + 1) 24 modZ from by have := Blk.new (wr.alloc (.cells #[.int .i64 v1, .int .i64 (1 + (i2 : Int)), .int .i64 v3, .int .i64 (1 + (i4 : Int)), .int .i64 v5, .int .i64 (1 + (i6 : Int))] 3)) 24 modZ; rw [World.size_alloc] at this; exact this) hb')
  have HmC := Lib.hid (fun w' (hb' : Below ((wr.alloc (.cells #[.string ⟨#[]⟩, .int .i64 0, .int .i64 0, .slice none 0 0] 24)).alloc (.cells #[.int .i64 v1, .int .i64 (1 + (i2 : Int)), .int .i64 v3, .int .i64 (1 + (i4 : Int)), .int .i64 v5, .int .i64 (1 + (i6 : Int))] 3)).drew.heap.size ((wr.alloc (.cells #[.string ⟨#[]⟩, .int .i64 0, .int .i64 0, .slice none 0 0] 24)).alloc (.cells #[.int .i64 v1, .int .i64 (1 + (i2 : Int)), .int .i64 v3, .int .i64 (1 + (i4 : Int)), .int .i64 v5, .int .i64 (1 + (i6 : Int))] 3)).drew w') => mod_cells (B := wr.heap.size) (show Blk ((wr.alloc (.cells #[.string ⟨#[]⟩, .int .i64 0, .int .i64 0, .slice none 0 0] 24)).alloc (.cells #[.int .i64 v1, .int .i64 (1 + (i2 : Int)), .int .i64 v3, .int .i64 (1 + (i4 : Int)), .int .i64 v5, .int .i64 (1 + (i6 : Int))] 3)).drew wr.heap.size 24 modZ from (Blk.new wr 24 modZ).alloc _) hb')
  have HzA := Lib.hid (show wr.heap.size ≤ (wr.alloc (.cells #[.int .i64 v1, .int .i64 (1 + (i2 : Int)), .int .i64 v3, .int .i64 (1 + (i4 : Int)), .int .i64 v5, .int .i64 (1 + (i6 : Int))] 3)).drew.heap.size by show _ ≤ (World.alloc _ _).heap.size; simp)
  have HzB := Lib.hid (show wr.heap.size ≤ ((wr.alloc (.cells #[.int .i64 v1, .int .i64 (1 + (i2 : Int)), .int .i64 v3, .int .i64 (1 + (i4 : Int)), .int .i64 v5, .int .i64 (1 + (i6 : Int))] 3)).alloc (.cells #[.string ⟨#[]⟩, .int .i64 0, .int .i64 0, .slice none 0 0] 24)).drew.heap.size by show _ ≤ (World.alloc _ _).heap.size; simp; omega)
  have HzC := Lib.hid (show wr.heap.size ≤ ((wr.alloc (.cells #[.string ⟨#[]⟩, .int .i64 0, .int .i64 0, .slice none 0 0] 24)).alloc (.cells #[.int .i64 v1, .int .i64 (1 + (i2 : Int)), .int .i64 v3, .int .i64 (1 + (i4 : Int)), .int .i64 v5, .int .i64 (1 + (i6 : Int))] 3)).drew.heap.size by show _ ≤ (World.alloc _ _).heap.size; simp; omega)
  have HbA := Lib.hid (show Below wr.heap.size wr (wr.alloc (.cells #[.int .i64 v1, .int .i64 (1 + (i2 : Int)), .int .i64 v3, .int .i64 (1 + (i4 : Int)), .int .i64 v5, .int .i64 (1 + (i6 : Int))] 3)).drew from ((Below.refl _ wr).alloc (Nat.le_refl _) _).drew)
  have HbB := Lib.hid (show Below wr.heap.size wr ((wr.alloc (.cells #[.int .i64 v1, .int .i64 (1 + (i2 : Int)), .int .i64 v3, .int .i64 (1 + (i4 : Int)), .int .i64 v5, .int .i64 (1 + (i6 : Int))] 3)).alloc (.cells #[.string ⟨#[]⟩, .int .i64 0, .int .i64 0, .slice none 0 0] 24)).drew from (((Below.refl _ wr).alloc (Nat.le_refl _) _).alloc (by simp) _).drew)
  have HbC := Lib.hid (show Below wr.heap.size wr ((wr.alloc (.cells #[.string ⟨#[]⟩, .int .i64 0, .int .i64 0, .slice none 0 0] 24)).alloc (.cells #[.int .i64 v1, .int .i64 (1 + (i2 : Int)), .int .i64 v3, .int .i64 (1 + (i4 : Int)), .int .i64 v5, .int .i64 (1 + (i6 : Int))] 3)).drew from (((Below.refl _ wr).alloc (Nat.le_refl _) _).alloc (by simp) _).drew)
  go_region_held3 (fun w' => w'.cell? ⟨Bp, i1, none⟩ = some (.int .i64 v1) ∧ w'.cell? ⟨Bp, i3, none⟩ = some (.int .i64 v3) ∧ w'.cell? ⟨Bp, i5, none⟩ = some (.int .i64 v5)) (first | (with_reducible exact ⟨(set4 hq1).trans hk1, (set4 hq1).trans hk2, (set4 hq1).trans hk3⟩) | (with_reducible exact ⟨(set4 hq2).trans hk1, (set4 hq2).trans hk2, (set4 hq2).trans hk3⟩) | go_keep) (first | ((go_at_call 25; (with_reducible refine hmcA.mono ?_); rintro e w' ⟨A9, c9, rfl, hp, hcc, hb'⟩; have hk1 := (HkA.out w' hb').1; have hk2 := (HkA.out w' hb').2.1; have hk3 := (HkA.out w' hb').2.2; have hbf := HbA.out.trans (hb'.mono HzA.out))) | ((go_at_call 25; (with_reducible refine hmcB.mono ?_); rintro e w' ⟨A9, c9, rfl, hp, hcc, hb'⟩; have hk1 := (HkB.out w' hb').1; have hk2 := (HkB.out w' hb').2.1; have hk3 := (HkB.out w' hb').2.2; obtain ⟨hmb, n0, n1, n2, n3, n4, n5, n6, n7⟩ := HmB.out w' hb'; have hbf := HbB.out.trans (hb'.mono HzB.out))) | ((go_at_call 25; (with_reducible refine hmcC.mono ?_); rintro e w' ⟨A9, c9, rfl, hp, hcc, hb'⟩; have hk1 := (HkC.out w' hb').1; have hk2 := (HkC.out w' hb').2.1; have hk3 := (HkC.out w' hb').2.2; obtain ⟨hmb, n0, n1, n2, n3, n4, n5, n6, n7⟩ := HmC.out w' hb'; have hbf := HbC.out.trans (hb'.mono HzC.out))))
  all_goals
    try (go_wp2_with fail)
    first
    | (obtain ⟨x1, x2, x3⟩ := mod_set (c := c9) (W := wr) (by simp [pairs]) hmb hp (by omega) hbf
       exact HN.out _ _ _ _ _ _ _ _ _ _ _ _ _ _ _ _ _ _ _ _ _ _ _ _ _ _ _ _ _ _ _ _ A9 c9 [v1, 1 + (i2 : Int), v3, 1 + (i4 : Int), v5, 1 + (i6 : Int)] _ ⟨x1, x2, by simp [pairs], hcc, hB8.trans (x3.mono hB8.size)⟩)
    | exact HN.out _ _ _ _ _ _ _ _ _ _ _ _ _ _ _ _ _ _ _ _ _ _ _ _ _ _ _ _ _ _ _ _ A9 c9 [v1, 1 + (i2 : Int), v3, 1 + (i4 : Int), v5, 1 + (i6 : Int)] _ ⟨Blk.new _ _ _, hp.below ((Below.refl _ _).alloc (Nat.le_refl _) _), by simp [pairs], hcc, (hB8.trans (hbf.mono hB8.size)).alloc (hB8.trans (hbf.mono hB8.size)).size _⟩

end Go.Proofs.Ytlmbffnmjfbglab
