/-
  No cell of these rows narrows 'for every input' (looked for: loops, veiled, ifaces, maps, wideKeys, modest, calm, conditions, laid).
  DERIVED. THE GIVEN ROWS OF THIS SEAT. 9 by the template 'for every input the law returns true; each argument reads behind the call as it read before'; 0 by the template 'total and deterministic' (their statements: YtlmbffnmjfbglaaTotals.lean).
  GIVEN WITH THE SEED: the statements are not yours to turn. If you find one false, say at which input.
  Laid BY PROGRAM, IN A SANDBOX (cutbox-rows.mjs): the forced cells as the released guide's own fill.sh prints them over the translation 47863ef7630d88a4… (all of the seat's roots in one cut). By AI agents, Wed Nov 11 2026. No macro, syntax, notation, axiom, sorry.
-/
import Derived.Test.YtlmbffnmjfbglaaChecked
import GoSem.Claim
import GoSem.ClaimJoined
import GoSem.ClaimMapViews
import Derived.JoinedTies
import Derived.KernelRfl
namespace Go.Proofs.Ytlmbffnmjfbglaa
/- THE CELL 'sum', in the pinned program and in every row, IS THE sha256 OF THE DUMP (.gsa) THAT YtlmbffnmjfbglaaProg.lean LOADS. Nothing in Lean hashes anything: it is a label: what it is worth is what the hold of that sum in a sandbox is worth. -/
noncomputable def Try.pinned : Pinned := { name := "ytlmbffnmjfbglaa", sum := "47863ef7630d88a46e020f1353e4191fb1bb7acae8aee9ad863bee8f23438c25", checked := Try.checked }
namespace Rows
def none {H : Type} : Left H := { results := [], args := [] }

/-- 'nacellelaw12.WindowPairs': WHATEVER THE INPUT: true; the input reads as it did. -/
def windowPairsSpec : ChangeSpec := { name := "windowPairs", fn := fun _ => fun
  | [d1, d2] => { results := [.lit (.bool true)], args := [d1, d2] }
  | _ => none }
def windowPairsRow : OpenClaim := { program := "ytlmbffnmjfbglaa", sum := "47863ef7630d88a46e020f1353e4191fb1bb7acae8aee9ad863bee8f23438c25", func := "nacelle/nacellelaw12.WindowPairs", spec := "windowPairs", unfollowed := true, recurses := true, apart := false }
def WindowPairsSaid : Prop := windowPairsRow.holds Try.pinned (OpenSpec.ofChange windowPairsSpec)

/-- ITS FALSE NEIGHBOUR: 'it returns false'. Refute it at one input. -/
def windowPairsWrong : ChangeSpec := { name := "windowPairs", fn := fun _ => fun
  | [d1, d2] => { results := [.lit (.bool false)], args := [d1, d2] }
  | _ => none }
def WindowPairsWrongFalsely : Prop := windowPairsRow.holds Try.pinned (OpenSpec.ofChange windowPairsWrong)

/-- 'nacellelaw12.WindowTimes': WHATEVER THE INPUT: true; the input reads as it did. -/
def windowTimesSpec : ChangeSpec := { name := "windowTimes", fn := fun _ => fun
  | [d1, d2, d3] => { results := [.lit (.bool true)], args := [d1, d2, d3] }
  | _ => none }
def windowTimesRow : OpenClaim := { program := "ytlmbffnmjfbglaa", sum := "47863ef7630d88a46e020f1353e4191fb1bb7acae8aee9ad863bee8f23438c25", func := "nacelle/nacellelaw12.WindowTimes", spec := "windowTimes", unfollowed := true, recurses := true, apart := false }
def WindowTimesSaid : Prop := windowTimesRow.holds Try.pinned (OpenSpec.ofChange windowTimesSpec)

/-- ITS FALSE NEIGHBOUR: 'it returns false'. Refute it at one input. -/
def windowTimesWrong : ChangeSpec := { name := "windowTimes", fn := fun _ => fun
  | [d1, d2, d3] => { results := [.lit (.bool false)], args := [d1, d2, d3] }
  | _ => none }
def WindowTimesWrongFalsely : Prop := windowTimesRow.holds Try.pinned (OpenSpec.ofChange windowTimesWrong)

/-- 'nacellelaw12.WindowDisjoint': WHATEVER THE INPUT: true; the input reads as it did. -/
def windowDisjointSpec : ChangeSpec := { name := "windowDisjoint", fn := fun _ => fun
  | [d1, d2] => { results := [.lit (.bool true)], args := [d1, d2] }
  | _ => none }
def windowDisjointRow : OpenClaim := { program := "ytlmbffnmjfbglaa", sum := "47863ef7630d88a46e020f1353e4191fb1bb7acae8aee9ad863bee8f23438c25", func := "nacelle/nacellelaw12.WindowDisjoint", spec := "windowDisjoint", unfollowed := true, recurses := true, apart := false }
def WindowDisjointSaid : Prop := windowDisjointRow.holds Try.pinned (OpenSpec.ofChange windowDisjointSpec)

/-- ITS FALSE NEIGHBOUR: 'it returns false'. Refute it at one input. -/
def windowDisjointWrong : ChangeSpec := { name := "windowDisjoint", fn := fun _ => fun
  | [d1, d2] => { results := [.lit (.bool false)], args := [d1, d2] }
  | _ => none }
def WindowDisjointWrongFalsely : Prop := windowDisjointRow.holds Try.pinned (OpenSpec.ofChange windowDisjointWrong)

/-- 'nacellelaw12.WindowTurned': WHATEVER THE INPUT: true; the input reads as it did. -/
def windowTurnedSpec : ChangeSpec := { name := "windowTurned", fn := fun _ => fun
  | [d1, d2, d3, d4] => { results := [.lit (.bool true)], args := [d1, d2, d3, d4] }
  | _ => none }
def windowTurnedRow : OpenClaim := { program := "ytlmbffnmjfbglaa", sum := "47863ef7630d88a46e020f1353e4191fb1bb7acae8aee9ad863bee8f23438c25", func := "nacelle/nacellelaw12.WindowTurned", spec := "windowTurned", unfollowed := true, recurses := true, apart := false }
def WindowTurnedSaid : Prop := windowTurnedRow.holds Try.pinned (OpenSpec.ofChange windowTurnedSpec)

/-- ITS FALSE NEIGHBOUR: 'it returns false'. Refute it at one input. -/
def windowTurnedWrong : ChangeSpec := { name := "windowTurned", fn := fun _ => fun
  | [d1, d2, d3, d4] => { results := [.lit (.bool false)], args := [d1, d2, d3, d4] }
  | _ => none }
def WindowTurnedWrongFalsely : Prop := windowTurnedRow.holds Try.pinned (OpenSpec.ofChange windowTurnedWrong)

/-- 'nacellelaw12.WindowNext': WHATEVER THE INPUT: true; the input reads as it did. -/
def windowNextSpec : ChangeSpec := { name := "windowNext", fn := fun _ => fun
  | [d1, d2, d3] => { results := [.lit (.bool true)], args := [d1, d2, d3] }
  | _ => none }
def windowNextRow : OpenClaim := { program := "ytlmbffnmjfbglaa", sum := "47863ef7630d88a46e020f1353e4191fb1bb7acae8aee9ad863bee8f23438c25", func := "nacelle/nacellelaw12.WindowNext", spec := "windowNext", unfollowed := true, recurses := true, apart := false }
def WindowNextSaid : Prop := windowNextRow.holds Try.pinned (OpenSpec.ofChange windowNextSpec)

/-- ITS FALSE NEIGHBOUR: 'it returns false'. Refute it at one input. -/
def windowNextWrong : ChangeSpec := { name := "windowNext", fn := fun _ => fun
  | [d1, d2, d3] => { results := [.lit (.bool false)], args := [d1, d2, d3] }
  | _ => none }
def WindowNextWrongFalsely : Prop := windowNextRow.holds Try.pinned (OpenSpec.ofChange windowNextWrong)

/-- 'nacellelaw12.WindowOwner': WHATEVER THE INPUT: true; the input reads as it did. -/
def windowOwnerSpec : ChangeSpec := { name := "windowOwner", fn := fun _ => fun
  | [d1, d2] => { results := [.lit (.bool true)], args := [d1, d2] }
  | _ => none }
def windowOwnerRow : OpenClaim := { program := "ytlmbffnmjfbglaa", sum := "47863ef7630d88a46e020f1353e4191fb1bb7acae8aee9ad863bee8f23438c25", func := "nacelle/nacellelaw12.WindowOwner", spec := "windowOwner", unfollowed := true, recurses := true, apart := false }
def WindowOwnerSaid : Prop := windowOwnerRow.holds Try.pinned (OpenSpec.ofChange windowOwnerSpec)

/-- ITS FALSE NEIGHBOUR: 'it returns false'. Refute it at one input. -/
def windowOwnerWrong : ChangeSpec := { name := "windowOwner", fn := fun _ => fun
  | [d1, d2] => { results := [.lit (.bool false)], args := [d1, d2] }
  | _ => none }
def WindowOwnerWrongFalsely : Prop := windowOwnerRow.holds Try.pinned (OpenSpec.ofChange windowOwnerWrong)

/-- 'nacellelaw12.WindowTells': WHATEVER THE INPUT: true; the input reads as it did. -/
def windowTellsSpec : ChangeSpec := { name := "windowTells", fn := fun _ => fun
  | [d1, d2, d3] => { results := [.lit (.bool true)], args := [d1, d2, d3] }
  | _ => none }
def windowTellsRow : OpenClaim := { program := "ytlmbffnmjfbglaa", sum := "47863ef7630d88a46e020f1353e4191fb1bb7acae8aee9ad863bee8f23438c25", func := "nacelle/nacellelaw12.WindowTells", spec := "windowTells", unfollowed := true, recurses := true, apart := false }
def WindowTellsSaid : Prop := windowTellsRow.holds Try.pinned (OpenSpec.ofChange windowTellsSpec)

/-- ITS FALSE NEIGHBOUR: 'it returns false'. Refute it at one input. -/
def windowTellsWrong : ChangeSpec := { name := "windowTells", fn := fun _ => fun
  | [d1, d2, d3] => { results := [.lit (.bool false)], args := [d1, d2, d3] }
  | _ => none }
def WindowTellsWrongFalsely : Prop := windowTellsRow.holds Try.pinned (OpenSpec.ofChange windowTellsWrong)

/-- 'nacellelaw12.WindowSmall': WHATEVER THE INPUT: true; the input reads as it did. -/
def windowSmallSpec : ChangeSpec := { name := "windowSmall", fn := fun _ => fun
  | [] => { results := [.lit (.bool true)], args := [] }
  | _ => none }
def windowSmallRow : OpenClaim := { program := "ytlmbffnmjfbglaa", sum := "47863ef7630d88a46e020f1353e4191fb1bb7acae8aee9ad863bee8f23438c25", func := "nacelle/nacellelaw12.WindowSmall", spec := "windowSmall", unfollowed := true, recurses := true, apart := false }
def WindowSmallSaid : Prop := windowSmallRow.holds Try.pinned (OpenSpec.ofChange windowSmallSpec)

/-- ITS FALSE NEIGHBOUR: 'it returns false'. Refute it at one input. -/
def windowSmallWrong : ChangeSpec := { name := "windowSmall", fn := fun _ => fun
  | [] => { results := [.lit (.bool false)], args := [] }
  | _ => none }
def WindowSmallWrongFalsely : Prop := windowSmallRow.holds Try.pinned (OpenSpec.ofChange windowSmallWrong)

/-- 'nacellelaw12.WindowTable': WHATEVER THE INPUT: true; the input reads as it did. -/
def windowTableSpec : ChangeSpec := { name := "windowTable", fn := fun _ => fun
  | [d1, d2] => { results := [.lit (.bool true)], args := [d1, d2] }
  | _ => none }
def windowTableRow : OpenClaim := { program := "ytlmbffnmjfbglaa", sum := "47863ef7630d88a46e020f1353e4191fb1bb7acae8aee9ad863bee8f23438c25", func := "nacelle/nacellelaw12.WindowTable", spec := "windowTable", unfollowed := true, recurses := true, apart := false }
def WindowTableSaid : Prop := windowTableRow.holds Try.pinned (OpenSpec.ofChange windowTableSpec)

/-- ITS FALSE NEIGHBOUR: 'it returns false'. Refute it at one input. -/
def windowTableWrong : ChangeSpec := { name := "windowTable", fn := fun _ => fun
  | [d1, d2] => { results := [.lit (.bool false)], args := [d1, d2] }
  | _ => none }
def WindowTableWrongFalsely : Prop := windowTableRow.holds Try.pinned (OpenSpec.ofChange windowTableWrong)

/- THE SECOND FORM. 'bulk': how many values and letters a reading holds, each counted each time it is reached (what is shared counts as often as it is met; a slice's spare places count too). A statement '..UptoSaid' is the law's where the arguments, and the package variables that the reading takes, are together of bulk at most 1048576: NARROWER than '..Said'. Prove '..Said' where nothing that the law and all that it calls make is longer than what came in: it says more and counts as full. Else prove '..UptoSaid'. A law counts once. -/
mutual
def uptoBulk {H : Type} : DataW H → Nat
  | .lit (.string bytes) => bytes.length + 1
  | .lit _ => 1
  | .nil => 1
  | .ptr d => uptoBulk d + 1
  | .slice elems spare => uptoBulkAll elems + uptoBulkAll spare + 1
  | .agg parts => uptoBulkAll parts + 1
  | .iface _ d => uptoBulk d + 1
  | .map entries => uptoBulkEntries entries + 1
  | .held _ => 1
def uptoBulkAll {H : Type} : List (DataW H) → Nat
  | [] => 0
  | d :: r => uptoBulk d + uptoBulkAll r
def uptoBulkEntries {H : Type} : List (Lit × DataW H) → Nat
  | [] => 0
  | x :: r => uptoBulkEntry x + uptoBulkEntries r
def uptoBulkEntry {H : Type} : Lit × DataW H → Nat
  | (.string bytes, d) => bytes.length + uptoBulk d + 1
  | (_, d) => uptoBulk d + 1
 end
def uptoSmall : (H : Type) → List (DataW H) → Bool := fun _ ds => decide (uptoBulkAll ds ≤ 1048576)
def OpenSpec.upto (s : _root_.Go.ChangeSpec) : _root_.Go.OpenSpec := { _root_.Go.OpenSpec.ofChange s with cond := some uptoSmall }

/-- 'nacellelaw12.WindowPairs', WHERE WHAT IT READS IS OF BULK AT MOST 1048576: true; the input reads as it did. -/
def windowPairsUptoRow : OpenClaim := { program := "ytlmbffnmjfbglaa", sum := "47863ef7630d88a46e020f1353e4191fb1bb7acae8aee9ad863bee8f23438c25", func := "nacelle/nacellelaw12.WindowPairs", spec := "windowPairs", unfollowed := true, recurses := true, apart := false, narrowed := true }
def WindowPairsUptoSaid : Prop := windowPairsUptoRow.holds Try.pinned (OpenSpec.upto windowPairsSpec)

/-- 'nacellelaw12.WindowTimes', WHERE WHAT IT READS IS OF BULK AT MOST 1048576: true; the input reads as it did. -/
def windowTimesUptoRow : OpenClaim := { program := "ytlmbffnmjfbglaa", sum := "47863ef7630d88a46e020f1353e4191fb1bb7acae8aee9ad863bee8f23438c25", func := "nacelle/nacellelaw12.WindowTimes", spec := "windowTimes", unfollowed := true, recurses := true, apart := false, narrowed := true }
def WindowTimesUptoSaid : Prop := windowTimesUptoRow.holds Try.pinned (OpenSpec.upto windowTimesSpec)

/-- 'nacellelaw12.WindowDisjoint', WHERE WHAT IT READS IS OF BULK AT MOST 1048576: true; the input reads as it did. -/
def windowDisjointUptoRow : OpenClaim := { program := "ytlmbffnmjfbglaa", sum := "47863ef7630d88a46e020f1353e4191fb1bb7acae8aee9ad863bee8f23438c25", func := "nacelle/nacellelaw12.WindowDisjoint", spec := "windowDisjoint", unfollowed := true, recurses := true, apart := false, narrowed := true }
def WindowDisjointUptoSaid : Prop := windowDisjointUptoRow.holds Try.pinned (OpenSpec.upto windowDisjointSpec)

/-- 'nacellelaw12.WindowTurned', WHERE WHAT IT READS IS OF BULK AT MOST 1048576: true; the input reads as it did. -/
def windowTurnedUptoRow : OpenClaim := { program := "ytlmbffnmjfbglaa", sum := "47863ef7630d88a46e020f1353e4191fb1bb7acae8aee9ad863bee8f23438c25", func := "nacelle/nacellelaw12.WindowTurned", spec := "windowTurned", unfollowed := true, recurses := true, apart := false, narrowed := true }
def WindowTurnedUptoSaid : Prop := windowTurnedUptoRow.holds Try.pinned (OpenSpec.upto windowTurnedSpec)

/-- 'nacellelaw12.WindowNext', WHERE WHAT IT READS IS OF BULK AT MOST 1048576: true; the input reads as it did. -/
def windowNextUptoRow : OpenClaim := { program := "ytlmbffnmjfbglaa", sum := "47863ef7630d88a46e020f1353e4191fb1bb7acae8aee9ad863bee8f23438c25", func := "nacelle/nacellelaw12.WindowNext", spec := "windowNext", unfollowed := true, recurses := true, apart := false, narrowed := true }
def WindowNextUptoSaid : Prop := windowNextUptoRow.holds Try.pinned (OpenSpec.upto windowNextSpec)

/-- 'nacellelaw12.WindowOwner', WHERE WHAT IT READS IS OF BULK AT MOST 1048576: true; the input reads as it did. -/
def windowOwnerUptoRow : OpenClaim := { program := "ytlmbffnmjfbglaa", sum := "47863ef7630d88a46e020f1353e4191fb1bb7acae8aee9ad863bee8f23438c25", func := "nacelle/nacellelaw12.WindowOwner", spec := "windowOwner", unfollowed := true, recurses := true, apart := false, narrowed := true }
def WindowOwnerUptoSaid : Prop := windowOwnerUptoRow.holds Try.pinned (OpenSpec.upto windowOwnerSpec)

/-- 'nacellelaw12.WindowTells', WHERE WHAT IT READS IS OF BULK AT MOST 1048576: true; the input reads as it did. -/
def windowTellsUptoRow : OpenClaim := { program := "ytlmbffnmjfbglaa", sum := "47863ef7630d88a46e020f1353e4191fb1bb7acae8aee9ad863bee8f23438c25", func := "nacelle/nacellelaw12.WindowTells", spec := "windowTells", unfollowed := true, recurses := true, apart := false, narrowed := true }
def WindowTellsUptoSaid : Prop := windowTellsUptoRow.holds Try.pinned (OpenSpec.upto windowTellsSpec)

/-- 'nacellelaw12.WindowSmall', WHERE WHAT IT READS IS OF BULK AT MOST 1048576: true; the input reads as it did. -/
def windowSmallUptoRow : OpenClaim := { program := "ytlmbffnmjfbglaa", sum := "47863ef7630d88a46e020f1353e4191fb1bb7acae8aee9ad863bee8f23438c25", func := "nacelle/nacellelaw12.WindowSmall", spec := "windowSmall", unfollowed := true, recurses := true, apart := false, narrowed := true }
def WindowSmallUptoSaid : Prop := windowSmallUptoRow.holds Try.pinned (OpenSpec.upto windowSmallSpec)

/-- 'nacellelaw12.WindowTable', WHERE WHAT IT READS IS OF BULK AT MOST 1048576: true; the input reads as it did. -/
def windowTableUptoRow : OpenClaim := { program := "ytlmbffnmjfbglaa", sum := "47863ef7630d88a46e020f1353e4191fb1bb7acae8aee9ad863bee8f23438c25", func := "nacelle/nacellelaw12.WindowTable", spec := "windowTable", unfollowed := true, recurses := true, apart := false, narrowed := true }
def WindowTableUptoSaid : Prop := windowTableUptoRow.holds Try.pinned (OpenSpec.upto windowTableSpec)

end Rows
end Go.Proofs.Ytlmbffnmjfbglaa
