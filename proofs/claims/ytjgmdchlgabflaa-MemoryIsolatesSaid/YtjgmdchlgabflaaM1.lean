/- A Memory's methods at, Load, Store. -/
import Derived.Test.YtjgmdchlgabflaaM0
namespace Go.Proofs.Ytjgmdchlgabflaa
open Go.ChangeShapes Go.WideShapes Go.ChangeAt Go.RowKit

section
variable {w : World} {m gb cr n : Nat} {Ar : Option Addr} {rs : List Reg} {f : Nat → Int} {k bs sz : Nat}
set_option maxRecDepth 100000 in
theorem at_in (hM : MemAt w m gb Ar cr rs n f) (hL : Laid rs n) (hk : k < rs.length) (hbs : rs[k].base = bs) (hsz : rs[k].size = sz) (a : Nat) (ha : a < sz) :
    Calls Try.prog 36 #[.pointer (some ⟨m, 0, none⟩), .int .i64 k, .int .i64 a] w fun e w' => e = .returned (.tuple #[.pointer (some ⟨gb, bs + a, none⟩), .int .i64 0]) ∧ Below w.heap.size w w' := by
  have hc := bytes_c hM hL hk bs sz hbs hsz
  have ho : offB bs sz = bs := by unfold offB; rw [if_neg (by omega)]
  rw [ho] at hc
  have h1 : (0 : Int) ≤ (a : Int) := by omega
  have h2 : (a : Int) < (sz : Int) := by omega
  clear hM hL hbs hsz ha ho
  go_enter Try.func36, Try.ntmps36
  go_wp2_with fail
  refine hc.mono ?_
  clear hc
  rintro e w1 ⟨rfl, hb1⟩
  go_wp2
  go_ret2
  exact ⟨rfl, hb1⟩
set_option maxRecDepth 100000 in
theorem at_out (hM : MemAt w m gb Ar cr rs n f) (hL : Laid rs n) (hk : k < rs.length) (hbs : rs[k].base = bs) (hsz : rs[k].size = sz) (a : Int) (ha : a < 0 ∨ sz ≤ a) :
    Calls Try.prog 36 #[.pointer (some ⟨m, 0, none⟩), .int .i64 k, .int .i64 a] w fun e w' => e = .returned (.tuple #[.pointer none, .int .i64 110]) ∧ Below w.heap.size w w' := by
  have hc := bytes_c hM hL hk bs sz hbs hsz
  generalize offB bs sz = ob at hc
  clear hM hL hbs hsz
  by_cases h1 : a < 0
  all_goals
    go_enter Try.func36, Try.ntmps36
    go_wp2_with fail
    refine hc.mono ?_
    clear hc
    rintro e w1 ⟨rfl, hb1⟩
    have h2 : a < 0 ∨ (0 ≤ a ∧ (sz : Int) ≤ a) := by omega
    rcases h2 with h2 | ⟨h2, h3⟩
    · first | omega | (
        go_wp2
        go_ret2
        exact ⟨rfl, hb1⟩)
    · first | omega | (
        go_wp2
        go_ret2
        exact ⟨rfl, hb1⟩)

set_option maxRecDepth 100000 in
theorem load_in (hM : MemAt w m gb Ar cr rs n f) (hL : Laid rs n) (hk : k < rs.length) (hbs : rs[k].base = bs) (hsz : rs[k].size = sz) (a : Nat) (ha : a < sz) :
    Calls Try.prog 17 #[.pointer (some ⟨m, 0, none⟩), .int .i64 k, .int .i64 a] w fun e w' => e = .returned (.tuple #[.int .u8 (f (bs + a)), .int .i64 0]) ∧ Below w.heap.size w w' := by
  have hc := at_in hM hL hk hbs hsz a ha
  have hr := (hL.reg k hk).2.2.2.2.2
  have hby := hM.bytes.cell (bs + a) (by omega)
  have hlt := hM.bytes.lt
  clear hM hL hbs hsz ha hr
  go_enter Try.func17, Try.ntmps17
  go_wp2_with fail
  refine hc.mono ?_
  clear hc
  rintro e w1 ⟨rfl, hb1⟩
  have g1 := (hb1.cell (p := ⟨gb, bs + a, none⟩) hlt).trans hby
  go_wp2
  go_ret2
  exact ⟨rfl, hb1⟩
set_option maxRecDepth 100000 in
theorem load_out (hM : MemAt w m gb Ar cr rs n f) (hL : Laid rs n) (hk : k < rs.length) (hbs : rs[k].base = bs) (hsz : rs[k].size = sz) (a : Int) (ha : a < 0 ∨ sz ≤ a) :
    Calls Try.prog 17 #[.pointer (some ⟨m, 0, none⟩), .int .i64 k, .int .i64 a] w fun e w' => e = .returned (.tuple #[.int .u8 0, .int .i64 110]) ∧ Below w.heap.size w w' := by
  have hc := at_out hM hL hk hbs hsz a ha
  clear hM hL hbs hsz ha
  go_enter Try.func17, Try.ntmps17
  go_wp2_with fail
  refine hc.mono ?_
  clear hc
  rintro e w1 ⟨rfl, hb1⟩
  go_wp2
  go_ret2
  exact ⟨rfl, hb1⟩
set_option maxRecDepth 100000 in
theorem store_in (hM : MemAt w m gb Ar cr rs n f) (hL : Laid rs n) (hk : k < rs.length) (hbs : rs[k].base = bs) (hsz : rs[k].size = sz) (a : Nat) (ha : a < sz) (v : Int) :
    Calls Try.prog 18 #[.pointer (some ⟨m, 0, none⟩), .int .i64 k, .int .i64 a, .int .u8 v] w fun e w' => e = .returned (.int .i64 0) ∧ ∃ w1, Below w.heap.size w w1 ∧ w' = w1.setCell ⟨gb, bs + a, none⟩ (.int .u8 v) := by
  have hc := at_in hM hL hk hbs hsz a ha
  have hr := (hL.reg k hk).2.2.2.2.2
  have hin : bs + a < n := by omega
  have hby := hM.bytes
  have hlt := hM.bytes.lt
  clear hM hL hbs hsz ha hr
  go_enter Try.func18, Try.ntmps18
  go_wp2_with fail
  refine hc.mono ?_
  clear hc
  rintro e w1 ⟨rfl, hb1⟩
  have hb := hby.below hb1 hlt
  have g1 := hb.cell (bs + a) hin
  have g2 := hb.frozen (bs + a)
  clear hb hby hin
  go_wp2
  go_ret
  exact ⟨rfl, w1, hb1, rfl⟩
set_option maxRecDepth 100000 in
theorem store_out (hM : MemAt w m gb Ar cr rs n f) (hL : Laid rs n) (hk : k < rs.length) (hbs : rs[k].base = bs) (hsz : rs[k].size = sz) (a : Int) (ha : a < 0 ∨ sz ≤ a) (v : Int) :
    Calls Try.prog 18 #[.pointer (some ⟨m, 0, none⟩), .int .i64 k, .int .i64 a, .int .u8 v] w fun e w' => e = .returned (.int .i64 110) ∧ Below w.heap.size w w' := by
  have hc := at_out hM hL hk hbs hsz a ha
  clear hM hL hbs hsz ha
  go_enter Try.func18, Try.ntmps18
  go_wp2_with fail
  refine hc.mono ?_
  clear hc
  rintro e w1 ⟨rfl, hb1⟩
  go_wp2
  go_ret
  exact ⟨rfl, hb1⟩
end
end Go.Proofs.Ytjgmdchlgabflaa
