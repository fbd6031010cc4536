/- A region of PlanSmall: a zero claim is appended to the claims below a claim, in any order that the draw allows. -/
import Derived.Test.YtlmbffnmjfbglabSr
import Derived.Deep.RegionHeld3
set_option linter.unusedSimpArgs false
set_option linter.unusedVariables false
namespace Go.Proofs.Ytlmbffnmjfbglab
open Go.ChangeShapes Go.WideShapes Go.ChangeAt Go.RowKit Go.Deep

set_option maxRecDepth 100000 in
set_option maxHeartbeats 8000000 in
theorem reg7_32_c (wr wc : World) (A : Option Addr) (qb : List Claim) (bd jd : Nat) (xf xt xw : Int) (sa : Option Addr) (sn sc : Nat) (y : Claim) (a' b' : Nat) (L3 : List CV) (hsp : Spot wc A qb bd jd ⟨xf, xt, xw, ⟨sa, sn, sc⟩⟩ y a' b' L3) (hbc : Below wr.heap.size wr wc) (hbd : wr.heap.size ≤ bd) (ha' : wr.heap.size ≤ a') (hyn : y.sub.length ≤ 16384)
    {x0 x1 x2 x3 x4 x5 x6 x7 x8 x9 x11 x12 x13 x14 x15 x16 x17 x18 x19 x20 x21 x22 x23 x24 x25 x26 x27 x28 x29 x30 x31 x32 x33 x34 x35 x36 x37 x38 x39 x40 x41 x42 x43 x44 x45 x46 x47 x48 x49 x50 x51 x52 x53 x54 x55 x56 x57 x58 x59 x60 x61 x62 x63 x64 x65 x66 x67 x68 x69 x70 x71 x72 x73 x74 x75 x76 x77 x78 x79 x80 x81 x82 x83 x84 x85 x86 x87 x88 x89 x90 x91 x92 x93 x94 x95 x96 x97 x98 x99 x100 x101 x102 x103 x104 x105 x106 x107 x108 x109 x110 x111 x112 x113 x114 x115 x116 x117 x118 x119 x120 x121 x122 x123 x124 x125 x126 x127 x128 x129 x130 x131 x132 x133 x134 x135 x136 x137 x138 x139 x140 x141 x142 x143 x144 x145 x146 x147 x148 x149 x150 x151 x152 x153 x154 x155 x156 x157 x158 x159 x160 x161 x162 x163 x164 x165 x166 x167 x168 x169 x170 x171 x172 x173 x174 x175 x176 x177 x178 x179 x180 x181 x182 x183 x184 x185 x186 x187 x188 x189 x190 x191 x192 x193 x194 x195 x196 x197 x198 x199 x200 x201 x202 x203 x204 x205 x206 x207 x208 x209 x210 x211 x212 x213 x214 x215 x216 x217 x218 x219 x220 x221 x222 : Value} (Q : Exit → Act → World → Prop)
    (hQ : ∀ (y161 y162 y163 y164 y165 y166 y167 y168 y169 y170 y171 : Value) (l' : List Claim) (W' : World), l'.length = qb.length → sizeL l' ≤ sizeL qb + 1 → RdK W' A l' → Below wr.heap.size wr W' → Q .normal { tmps := List.toArray (x0 :: x1 :: x2 :: x3 :: x4 :: x5 :: x6 :: x7 :: x8 :: x9 :: Value.pointer (some ⟨bd, jd * 4, none⟩) :: x11 :: x12 :: x13 :: x14 :: x15 :: x16 :: x17 :: x18 :: x19 :: x20 :: x21 :: x22 :: x23 :: x24 :: x25 :: x26 :: x27 :: x28 :: x29 :: x30 :: x31 :: x32 :: x33 :: x34 :: x35 :: x36 :: x37 :: x38 :: x39 :: x40 :: x41 :: x42 :: x43 :: x44 :: x45 :: x46 :: x47 :: x48 :: x49 :: x50 :: x51 :: x52 :: x53 :: x54 :: x55 :: x56 :: x57 :: x58 :: x59 :: x60 :: x61 :: x62 :: x63 :: x64 :: x65 :: x66 :: x67 :: x68 :: x69 :: x70 :: x71 :: x72 :: x73 :: x74 :: x75 :: x76 :: x77 :: x78 :: x79 :: x80 :: x81 :: x82 :: x83 :: x84 :: x85 :: x86 :: x87 :: x88 :: x89 :: x90 :: x91 :: x92 :: x93 :: x94 :: x95 :: x96 :: x97 :: x98 :: x99 :: x100 :: x101 :: x102 :: x103 :: x104 :: x105 :: x106 :: x107 :: x108 :: x109 :: x110 :: x111 :: x112 :: x113 :: x114 :: x115 :: x116 :: x117 :: x118 :: x119 :: x120 :: x121 :: x122 :: x123 :: x124 :: x125 :: x126 :: x127 :: x128 :: x129 :: x130 :: x131 :: x132 :: x133 :: x134 :: x135 :: x136 :: x137 :: x138 :: x139 :: x140 :: x141 :: x142 :: x143 :: x144 :: x145 :: x146 :: x147 :: x148 :: x149 :: x150 :: x151 :: x152 :: x153 :: x154 :: x155 :: x156 :: x157 :: x158 :: x159 :: x160 :: y161 :: y162 :: y163 :: y164 :: y165 :: y166 :: y167 :: y168 :: y169 :: y170 :: y171 :: x172 :: x173 :: x174 :: x175 :: x176 :: x177 :: x178 :: x179 :: x180 :: x181 :: x182 :: x183 :: x184 :: x185 :: x186 :: x187 :: x188 :: x189 :: x190 :: x191 :: x192 :: x193 :: x194 :: x195 :: x196 :: x197 :: x198 :: x199 :: x200 :: x201 :: x202 :: x203 :: x204 :: x205 :: x206 :: x207 :: x208 :: x209 :: x210 :: x211 :: x212 :: x213 :: x214 :: x215 :: x216 :: x217 :: x218 :: x219 :: x220 :: x221 :: x222 :: []), defers := [] } W') :
    (reg7 32).wp Try.prog Q { tmps := List.toArray (x0 :: x1 :: x2 :: x3 :: x4 :: x5 :: x6 :: x7 :: x8 :: x9 :: Value.pointer (some ⟨bd, jd * 4, none⟩) :: x11 :: x12 :: x13 :: x14 :: x15 :: x16 :: x17 :: x18 :: x19 :: x20 :: x21 :: x22 :: x23 :: x24 :: x25 :: x26 :: x27 :: x28 :: x29 :: x30 :: x31 :: x32 :: x33 :: x34 :: x35 :: x36 :: x37 :: x38 :: x39 :: x40 :: x41 :: x42 :: x43 :: x44 :: x45 :: x46 :: x47 :: x48 :: x49 :: x50 :: x51 :: x52 :: x53 :: x54 :: x55 :: x56 :: x57 :: x58 :: x59 :: x60 :: x61 :: x62 :: x63 :: x64 :: x65 :: x66 :: x67 :: x68 :: x69 :: x70 :: x71 :: x72 :: x73 :: x74 :: x75 :: x76 :: x77 :: x78 :: x79 :: x80 :: x81 :: x82 :: x83 :: x84 :: x85 :: x86 :: x87 :: x88 :: x89 :: x90 :: x91 :: x92 :: x93 :: x94 :: x95 :: x96 :: x97 :: x98 :: x99 :: x100 :: x101 :: x102 :: x103 :: x104 :: x105 :: x106 :: x107 :: x108 :: x109 :: x110 :: x111 :: x112 :: x113 :: x114 :: x115 :: x116 :: x117 :: x118 :: x119 :: x120 :: x121 :: x122 :: x123 :: x124 :: x125 :: x126 :: x127 :: x128 :: x129 :: x130 :: x131 :: x132 :: x133 :: x134 :: x135 :: x136 :: x137 :: x138 :: x139 :: x140 :: x141 :: x142 :: x143 :: x144 :: x145 :: x146 :: x147 :: x148 :: x149 :: x150 :: x151 :: x152 :: x153 :: x154 :: x155 :: x156 :: x157 :: x158 :: x159 :: x160 :: x161 :: x162 :: x163 :: x164 :: x165 :: x166 :: x167 :: x168 :: x169 :: x170 :: x171 :: x172 :: x173 :: x174 :: x175 :: x176 :: x177 :: x178 :: x179 :: x180 :: x181 :: x182 :: x183 :: x184 :: x185 :: x186 :: x187 :: x188 :: x189 :: x190 :: x191 :: x192 :: x193 :: x194 :: x195 :: x196 :: x197 :: x198 :: x199 :: x200 :: x201 :: x202 :: x203 :: x204 :: x205 :: x206 :: x207 :: x208 :: x209 :: x210 :: x211 :: x212 :: x213 :: x214 :: x215 :: x216 :: x217 :: x218 :: x219 :: x220 :: x221 :: x222 :: []), defers := [] } wc := by
  obtain ⟨i0, hi0, hz0, hz1, hz2⟩ := info_parts info35
  have c3 : wc.cell? ⟨bd, jd * 4 + 3, none⟩ = some (.slice sa sn sc) := hsp.cells 3 _ rfl
  have hfz := fun i => hsp.frozen i
  have hzb : bd < wc.heap.size := hsp.blk.choose_spec.lt
  have Hsp := Lib.hid hsp
  have Hbc := Lib.hid hbc
  have Hbd := Lib.hid hbd
  have Ha' := Lib.hid ha'
  have HQ := Lib.hid hQ
  clear hsp hbc hbd ha' hQ
  conv => arg 2; whnf
  refine wp_region_noPanic ?_
  have hsn : sn = y.sub.length := Hsp.out.val.2.2.2.1
  subst hsn
  have hown := Hsp.out.own
  have hal : a' ≤ wc.heap.size := Nat.le_trans Hsp.out.hab Hsp.out.hb
  have q3a : ∀ o, (wc.alloc o).cell? ⟨bd, jd * 4 + 3, none⟩ = some (.slice sa y.sub.length sc) := fun o => by rw [World.cell?_alloc_lt _ _ _ (by simp; omega)]; exact c3
  have hob : ∀ g', (Value.slice sa y.sub.length sc).ownBlock = some g' → g' ≠ bd ∧ wr.heap.size ≤ g' := fun g' e => by
    have h1 := (hown.lt g' e).1
    have h2 := Hsp.out.ownlt g' e
    have h3 := Hsp.out.apart
    have h4 := Ha'.out
    omega
  have hL3 : (L3.flatMap CV.cells).length = y.sub.length * 4 := by rw [CV.len, Hsp.out.ow.len]
  obtain ⟨csb, hbk⟩ := Hsp.out.blk
  have Hbk := Lib.hid hbk
  have Hob := Lib.hid hob
  have HL3 := Lib.hid hL3
  clear hbk
  have hi0' : (0 : Int) ≤ (y.sub.length : Int) := by omega
  have hi1' : (y.sub.length : Int) < (y.sub.length : Int) + 1 := by omega
  clear hob hL3
  generalize hN : y.sub.length = N at *
  have HN := Lib.hid hN
  clear hN
  go_wp2_with fail
  go_region_law (refine step_append_lies _ rfl (.tmp 164) (.tmp 167) 29 rfl a' 35 i0 _ 4 48 Try.underlying29 hi0 hz0 hz1 hz2 rfl (by decide) (.slice sa N sc) N _ (by rfl) ((hown.alloc _).drew) ⟨wc.heap.size, 0, none⟩ 1 1 [.int .i64 0, .int .i64 0, .int .i64 0, .slice none 0 0] (by rfl) rfl (World.news_of_block (cs := #[.int .i64 0, .int .i64 0, .int .i64 0, .slice none 0 0]) (t := 35) (fr := (0, 0)) (heap_alloc_new wc _)) (by simp [Value.oneCell']) (by omega) (by unfold maxLen; omega) (by omega) (by simp; omega) (wc.heap.size + 1) (by simp) ?_; intro g' cap' w2 hown2 hgrow hg hgl; obtain ⟨hgb, hgb', z0, z1, z2, z3, y0, n3, n4, Hcur⟩ := app_facts HL3.out (((show Blk wc bd 35 csb from Hbk.out).alloc _).drew) ((q3a _ : (wc.alloc (.cells #[.int .i64 0, .int .i64 0, .int .i64 0, .slice none 0 0] 35)).drew.cell? _ = _)) (fun g h => (Hob.out g h).1) hown2 hgrow (hg.imp id fun e => by rw [e]; show _ = (World.alloc _ _).heap.size; simp); have Hown2 := Lib.hid hown2; have Hgrow := Lib.hid hgrow; have Hg2 := Lib.hid hg; clear hown2 hgrow hg hgl)
  all_goals
    try (go_wp2_with fail)
    obtain ⟨cur, hk2, d0, d1, d2, d3⟩ := Hcur.out
    first
    | rw [app_same hk2 d0 d1 d2 d3]
    | rw [app_same (hk2.far (p := ⟨bd, jd * 4 + 3, none⟩) hgb _) d0 d1 d2 d3]
    have hN := HN.out
    subst hN
    refine (Hsp.out.app (w1 := (wc.alloc (.cells #[.int .i64 0, .int .i64 0, .int .i64 0, .slice none 0 0] 35)).drew) (by show _ ≤ (World.alloc _ _).heap.size; simp) (fun n hn => Below.heap_alloc wc _ n hn) Hgrow.out Hown2.out (Hg2.out.imp id fun e => by rw [e]; show _ = (World.alloc _ _).heap.size; simp)).elim fun l' h => NoPanic.normal (HQ.out _ _ _ _ _ _ _ _ _ _ _ l' _ h.1 (by have := h.2.2; omega) h.2.1 ?_)
    exact (((Hbc.out.alloc Hbc.out.size _).drew).grown Hgrow.out (by have := Hbc.out.size; show _ ≤ (World.alloc _ _).heap.size; simp; omega) (fun b hb => (Hob.out b hb).2)).setCell (p := ⟨bd, _, none⟩) Hbd.out _

end Go.Proofs.Ytlmbffnmjfbglab
