/- Texts F1, joined. -/
import Derived.Test.YtknojjlfgjkbiaaGreatDoorH11
import Derived.Test.YtknojjlfgjkbiaaGreatDoorH12
set_option linter.unusedSimpArgs false
set_option linter.unusedVariables false
set_option linter.unusedSectionVars false
/- Open. -/
namespace Go.Proofs.YtknojjlfgjkbiaaGreatDoor
open Go.ChangeShapes Go.WideShapes Go.ChangeAt Go.RowKit
attribute [local go_sem] Oper.semAt_some

theorem clone_set_c {b n : Nat} {ks : List Rep} {f : Rep → Int} (w : World) (h : OnMap KR w b n ks f) : Calls Tryz.prog 37 #[.map (some b)] w fun e w' => e = .returned (.map (some w.heap.size)) ∧ OnMap KR w' w.heap.size n ks f ∧ Below w.heap.size w w' := by
  obtain ⟨D, h1, h2⟩ := h
  refine (Go.Proofs.AnyW.maps_Clone_owns Go.Proofs.Tryz.cloneSet 32 (plainElem Tryz.prog 3) b n D w h1).mono ?_
  rintro e w' ⟨he, h3, _, h4⟩
  exact ⟨he, ⟨D, h3, h2⟩, h4⟩
theorem OnMap.next_ {w w' : World} {b n : Nat} {ks : List Rep} {f : Rep → Int} (h : OnMap KR w b n ks f) (hb : Below w.heap.size w w') : OnMap KR w' b n ks f := h.below hb h.lt
theorem OnMap.nodup {w : World} {b n : Nat} {ks : List Rep} {f : Rep → Int} (h : OnMap KR w b n ks f) : ks.Nodup := h.choose_spec.2.nodup
/-- a report that is open: reported, and explained by no accused unit. -/
def openB (L : List CsV) (reps : List Rep) (acc l : List ByteArray) (x : Rep) : Prop := x ∈ reps ∧ ¬ ∃ u ∈ l, x ∈ explV L reps acc u
theorem openB_nil {L : List CsV} {reps : List Rep} {acc : List ByteArray} {x : Rep} : openB L reps acc [] x ↔ x ∈ reps := by simp [openB]
theorem openB_snoc {L : List CsV} {reps : List Rep} {acc l : List ByteArray} {u : ByteArray} {x : Rep} : openB L reps acc (l ++ [u]) x ↔ openB L reps acc l x ∧ x ∉ explV L reps acc u := by
  unfold openB
  constructor
  · rintro ⟨h1, h2⟩
    exact ⟨⟨h1, fun ⟨v, hv, hx⟩ => h2 ⟨v, by simp [hv], hx⟩⟩, fun hx => h2 ⟨u, by simp, hx⟩⟩
  · rintro ⟨⟨h1, h2⟩, h3⟩
    refine ⟨h1, fun ⟨v, hv, hx⟩ => ?_⟩
    rcases List.mem_append.1 hv with hv | hv
    · exact h2 ⟨v, hv, hx⟩
    · simp at hv; subst hv; exact h3 hx
theorem fold_mem {κ : Type} [DecidableEq κ] {l : List κ} {x : κ} : x ∈ l.foldl addU [] ↔ x ∈ l := by rw [mem_fold]; simp

set_option maxRecDepth 100000 in
set_option maxHeartbeats 4000000 in
theorem Open_c (L : List CsV) (reps : List Rep) (A : Option Addr) (c : Nat) (A1 : Option Addr) (c1 : Nat) (w : World) (h : RdCs w w.heap.size A L) (ok : ∀ x ∈ L, OkC x.c) (hl : L.length ≤ 100000) (hn : ∀ x ∈ L, x.c.needs.length ≤ 1000)
    (hr : RdRep w w.heap.size A1 reps) (okr : ∀ r ∈ reps, r.ok) (hl2 : reps.length ≤ 100000000) :
    Calls Tryz.prog 11 #[.slice A L.length c, .slice A1 reps.length c1] w fun e w' => ∃ A' c' l, e = .returned (.tuple #[.slice A' l.length c', .int .i64 (if okV (csOf L) = true then 0 else 400)]) ∧ RdRep w' w'.heap.size A' l ∧ l.Nodup ∧ Asc l ∧
      (∀ x, x ∈ l ↔ okV (csOf L) = true ∧ openB L reps (accV (csOf L) reps) (accV (csOf L) reps) x) ∧ Below w.heap.size w w' := by
  have hof := of_c reps A1 c1 w hr okr (by unfold maxLen; omega)
  have hac := fun w1 b (hh : RdCs w1 w1.heap.size A L) (hm : CntMap KR w1 b reps) => accused_c L reps b A c w1 hh ok hl hm
  have hau : ∀ x ∈ accV (csOf L) reps, x.size ≤ maxLen := fun x hx => by
    have h1 := acc_sub (csOf L) reps x hx
    rw [mem_units] at h1
    obtain ⟨c, hc, rfl⟩ := h1
    obtain ⟨y, hy, rfl⟩ := List.mem_map.1 hc
    exact (ok y hy).u
  have hal : (accV (csOf L) reps).length ≤ 100000 := by
    have := accL_len (csOf L) reps (orderV (csOf L)) []
    have h2 := order_len (csOf L)
    have h3 := len_units (csOf L)
    simp at this h3
    unfold accV
    omega
  have hex := fun w1 b b2 u (hh : RdCs w1 w1.heap.size A L) (hm : CntMap KR w1 b reps) (hm2 : CntMap KS w1 b2 (accV (csOf L) reps)) hu => explained_c L reps (accV (csOf L) reps) b b2 u A c w1 hh ok hl hn hm hm2 hu
  obtain ⟨kv, hkv⟩ : ∃ kv, kv = okV (csOf L) := ⟨_, rfl⟩
  rw [← hkv] at hac ⊢
  have H := Lib.hid h
  have Hof := Lib.hid hof
  have Hau := Lib.hid hau
  have Hac := Lib.hid hac
  have Hex := Lib.hid hex
  clear h ok hn hr okr hof hau hac hex hkv
  generalize accV (csOf L) reps = acc at *
  go_enter Tryz.func11, Tryz.ntmps11
  go_wp2_with fail
  refine Hof.out.mono ?_
  rintro e w1 ⟨rfl, hm1, hb1⟩
  have Hac1 := Lib.hid (Hac.out w1 w.heap.size (H.out.below hb1) hm1)
  have Hm1 := Lib.hid hm1
  have Hb1 := Lib.hid hb1
  have hlt1 := hm1.lt
  clear hm1 hb1 Hac Hof
  go_wp2_with fail
  refine Hac1.out.mono ?_
  rintro e w2 ⟨hb2, he⟩
  have hB2 := Hb1.out.trans (hb2.mono Hb1.out.size)
  have HB2 := Lib.hid hB2
  have Hm2 := Lib.hid (Hm1.out.next hb2)
  have hs2 := hb2.size
  clear hb2 hB2 Hac1 Hm1
  cases kv with
  | false =>
    simp only [Bool.false_eq_true, if_false] at he
    subst he
    go_wp2_with fail
    refine bodyPost_ret (results_tmp2 rfl _ _ _) rfl ?_
    exact ⟨none, 0, [], rfl, RdRep.nil, List.nodup_nil, asc_nil, fun x h => absurd h (by simp), HB2.out⟩
  | true =>
    simp only [if_true] at he
    obtain ⟨A2, c2, b2, rfl, hrd, hm'⟩ := he
    have Hrd := Lib.hid hrd
    have HM' := Lib.hid hm'
    have hlt2 := hm'.lt
    obtain ⟨n, hnn, hO⟩ := Hm2.out
    have HO := Lib.hid hO
    clear hrd hm' hO
    go_wp2_with fail
    refine (clone_set_c w2 HO.out).mono ?_
    rintro e w3 ⟨rfl, hO3, hb3⟩
    have hk0 : ∀ x, x ∈ reps.foldl addU [] ↔ openB L reps acc (acc.take 0) x := fun x => by rw [fold_mem, List.take_zero, openB_nil]
    have HO3 := Lib.hid (And.intro hO3 (And.intro hk0 hb3))
    clear hO3 hk0 HO
    go_wp2_with fail
    go_loopw [30] (fun t wr => ∃ (k : Nat) (ks : List Rep) (f : Rep → Int), k ≤ acc.length ∧ t = .int .i64 k ∧ OnMap KR wr w2.heap.size n ks f ∧ (∀ x, x ∈ ks ↔ openB L reps acc (acc.take k) x) ∧ Below w2.heap.size w2 wr) (fun t wr => acc.length - (intOf t).toNat)
    case atStart => exact ⟨0, _, _, Nat.zero_le _, rfl, HO3.out.1, HO3.out.2.1, HO3.out.2.2⟩
    case round =>
      clear HO3
      obtain ⟨k, ks, f, hk, rfl, hO, hks, hB⟩ := hrel
      by_cases hlt : k < acc.length
      · obtain ⟨bo, oo, rfl, hbo, hco⟩ := (Hrd.out.keep hB).at_ hlt
        have hu : acc[k].size ≤ maxLen := Hau.out _ (List.getElem_mem hlt)
        have htk : acc.take (k + 1) = acc.take k ++ [acc[k]] := List.take_succ_eq_append_getElem hlt
        have hst : ∀ x, openB L reps acc (acc.take (k + 1)) x ↔ openB L reps acc (acc.take k) x ∧ x ∉ explV L reps acc acc[k] := fun x => by rw [htk]; exact openB_snoc
        have hbw : bo < wr.heap.size := World.block_lt_of_cell? wr _ hco
        have hwB := HB2.out.trans (hB.mono HB2.out.size)
        have hex := Hex.out wr w.heap.size b2 acc[k] ((H.out.keep hwB).more hwB.size) (Hm2.out.below hB (by omega)) (HM'.out.below hB hlt2) hu
        have Hst := Lib.hid hst
        have Hks := Lib.hid hks
        have HB := Lib.hid hB
        have HO := Lib.hid hO
        have Hex1 := Lib.hid hex
        have hlO := hO.lt
        clear htk hst hks hB hwB hex hO
        generalize acc[k] = u at *
        go_wp2_with fail
        refine Hex1.out.mono ?_
        rintro e w4 ⟨rfl, hm4, hb4⟩
        have hB4 := HB.out.trans (hb4.mono HB.out.size)
        have hO4 := HO.out.next_ hb4
        obtain ⟨n4, _, hOe⟩ := hm4
        obtain ⟨w5, cnt, hrun, hrg, hg5, hs5⟩ := hOe.range
        have hrun : (Instr.range 83 (.map (some (wr.heap.size + 2)))).run Tryz.prog w4 = .ok (.pointer (some ⟨w4.heap.size, 0, none⟩)) w5 := hrun
        have hB5 : Below w2.heap.size w2 w5 := hB4.grown hg5 hB4.size (fun j e => by cases e)
        have hs4 := hb4.size
        have hsb := HB.out.size
        have hO5 := hO4.kept hg5 (by simp)
        have hke : ∀ x, x ∈ (explV L reps acc u).foldl addU [] ↔ x ∈ explV L reps acc u := fun x => fold_mem
        have HI := Lib.hid (And.intro hrg (And.intro hO5 hB5))
        have Hke := Lib.hid hke
        clear hb4 hB4 hO4 hOe hrg hg5 hB5 hO5 HO HB Hex1 hke
        generalize hbe : wr.heap.size + 2 = be at *
        have hbe2 : w2.heap.size < be := by omega
        have hbe4 : be < w4.heap.size := (HI.out.1).objB.choose_spec.1 |> fun h => by have := (Array.getElem?_eq_some_iff.1 h).1; have := HI.out.1.ne; omega
        clear hbe
        go_wp2_with fail
        go_loopw [13] (fun _ wx => ∃ (got : List Rep) (cnt : Nat) (kt : List Rep) (ft : Rep → Int), Rng KR wx be w4.heap.size ((explV L reps acc u).foldl addU []) (fun x => (cntB x (explV L reps acc u) : Int)) got cnt ∧ OnMap KR wx w2.heap.size n kt ft ∧ (∀ x, x ∈ kt ↔ x ∈ ks ∧ x ∉ got) ∧ Below w2.heap.size w2 wx) (fun _ wx => wx.rangeLeft be w4.heap.size)
        case atStart => exact ⟨[], cnt, ks, f, HI.out.1, HI.out.2.1, fun x => by simp, HI.out.2.2⟩
        case round =>
          clear hrun HI
          obtain ⟨got, cnt, kt, ft, hrg, hOt, hkt, hBt⟩ := hrel
          have hle := hrg.left_eq
          rcases hrg.next 0 with ⟨hall, hrun⟩ | ⟨x, c, w6, cnt2, hx, hxk, hxg, hrun0, hrg2, hlt2, hg2, hs2, hen0⟩
          · have hnew : ∀ x, x ∈ kt ↔ openB L reps acc (acc.take (k + 1)) x := fun x => by
              rw [hkt x, Hst.out x, Hks.out x]
              have : x ∈ got ↔ x ∈ explV L reps acc u := ⟨fun h => (Hke.out x).1 (hrg.sub x h), fun h => hall x ((Hke.out x).2 h)⟩
              rw [this]
            have HR := Lib.hid (And.intro hOt (And.intro hnew hBt))
            clear hrg hOt hkt hBt hnew hle
            go_wp2_with fail
            go_roundw
            case rel => exact ⟨k + 1, kt, ft, by omega, by go_num, HR.out⟩
            case measure => simp [intOf]; omega
          · have hlr := hrg.lt
            have hO6 := hOt.kept hg2 (by simp; omega)
            have hB6 := hBt.grown hg2 hBt.size (fun j e => by cases e; omega)
            have hO7 := hO6.alloc (.cells #[.string x.unit, .int .i64 x.code] 32)
            have hB7 := hB6.alloc hB6.size (.cells #[.string x.unit, .int .i64 x.code] 32)
            have hrg7 := hrg2.alloc (.cells #[.string x.unit, .int .i64 x.code] 32)
            obtain ⟨w8, hdel, hO8, htu⟩ := hO7.run_del hx 0
            have hg8 := htu.grown
            have hdel : (Builtin.delete_ #[83, 32] 0 #[.map (some w2.heap.size), .agg #[.string x.unit, .int .i64 x.code]]).run Tryz.prog (w6.alloc (.cells #[.string x.unit, .int .i64 x.code] 32)) = .ok (.tuple #[]) w8 := hdel
            have hen : (Instr.entry (.pointer (some ⟨w4.heap.size, 0, none⟩))).run Tryz.prog w6 = .ok (.tuple #[.agg #[.string x.unit, .int .i64 x.code], .int .i64 c]) w6 := hen0
            have hrun : (Instr.next (.pointer (some ⟨w4.heap.size, 0, none⟩)) false 0).run Tryz.prog wr = .ok (.tuple #[.bool true, .agg #[.string x.unit, .int .i64 x.code], .int .i64 c]) w6 := hrun0
            have hnew : ∀ z, z ∈ kt.erase x ↔ z ∈ ks ∧ z ∉ got ++ [x] := fun z => by
              rw [List.Nodup.mem_erase_iff hO7.nodup, hkt z]
              simp only [List.mem_append, List.mem_singleton, not_or]
              exact ⟨fun ⟨a, b, c⟩ => ⟨b, c, a⟩, fun ⟨b, c, a⟩ => ⟨a, b, c⟩⟩
            have hrg8 := hrg7.kept hg8 (by simp; omega) (by simp; omega)
            have hB8 := hB7.grown hg8 hB7.size (fun j e => by cases e; omega)
            have hle8 := hrg8.left_eq
            have HR := Lib.hid (And.intro hrg8 (And.intro hO8 (And.intro hnew hB8)))
            have Hle8 := Lib.hid hle8
            have Hle := Lib.hid hle
            clear hrg hOt hkt hBt hrun0 hen0 hrg2 hO6 hB6 hO7 hB7 hrg7 hO8 htu hg8 hnew hrg8 hB8 hle8 hle hg2
            go_wp2_with fail
            go_roundw
            case rel => exact ⟨_, _, _, _, HR.out⟩
            case measure => rw [Hle8.out, Hle.out]; exact hlt2
      · obtain rfl : k = acc.length := by omega
        rw [List.take_length] at hks
        have hkl : ks.length ≤ 100000000 := by
          have := hO.len_le
          omega
        have hso := sorted_c w2.heap.size n ks f wr hO hkl
        have HB := Lib.hid (HB2.out.trans (hB.mono HB2.out.size))
        have Hso := Lib.hid hso
        have Hks := Lib.hid hks
        clear hks hO hB hso
        go_wp2_with fail
        refine Hso.out.mono ?_
        rintro e w4 ⟨A', c', l, rfl, h1, h2, h3, h4, h5⟩
        have HR := Lib.hid (And.intro h4 (And.intro h1 (And.intro h3 (And.intro (fun x => (h2 x).trans (Hks.out x)) (HB.out.trans (h5.mono HB.out.size))))))
        clear h1 h2 h3 h4 h5 Hso
        go_wp2_with fail
        refine bodyPost_ret (results_tmp2 rfl _ _ _) rfl ?_
        exact ⟨A', c', l, rfl, HR.out⟩
end Go.Proofs.YtknojjlfgjkbiaaGreatDoor
