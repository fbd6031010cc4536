/-
  NARROWER THAN 'FOR EVERY INPUT', by the rows' own cells (each row's printed sentence says how): PlanChecks: loops · PlanSound: loops.
  DERIVED. THE GIVEN ROWS OF THIS SEAT. 9 by the template 'for every input the law returns true; each argument reads behind the call as it read before'; 0 by the template 'total and deterministic' (their statements: YtlmbffnmjfbglabTotals.lean).
  GIVEN WITH THE SEED: the statements are not yours to turn. If you find one false, say at which input.
  Laid BY PROGRAM, IN A SANDBOX (cutbox-rows.mjs): the forced cells as the released guide's own fill.sh prints them over the translation ec771813ac51e18d… (all of the seat's roots in one cut). By AI agents, Wed Nov 11 2026. No macro, syntax, notation, axiom, sorry.
-/
import Derived.Test.YtlmbffnmjfbglabChecked
import GoSem.Claim
import GoSem.ClaimJoined
import GoSem.ClaimMapViews
import Derived.JoinedTies
import Derived.KernelRfl
namespace Go.Proofs.Ytlmbffnmjfbglab
/- THE CELL 'sum', in the pinned program and in every row, IS THE sha256 OF THE DUMP (.gsa) THAT YtlmbffnmjfbglabProg.lean LOADS. Nothing in Lean hashes anything: it is a label: what it is worth is what the hold of that sum in a sandbox is worth. -/
noncomputable def Try.pinned : Pinned := { name := "ytlmbffnmjfbglab", sum := "ec771813ac51e18dfddacae25371d6d6c728acb285abf26ab988a66095fc0491", checked := Try.checked }
namespace Rows
def none {H : Type} : Left H := { results := [], args := [] }

/-- 'nacellelaw13.PlanTells': WHATEVER THE INPUT: true; the input reads as it did. -/
def planTellsSpec : ChangeSpec := { name := "planTells", fn := fun _ => fun
  | [d] => { results := [.lit (.bool true)], args := [d] }
  | _ => none }
def planTellsRow : OpenClaim := { program := "ytlmbffnmjfbglab", sum := "ec771813ac51e18dfddacae25371d6d6c728acb285abf26ab988a66095fc0491", func := "nacelle/nacellelaw13.PlanTells", spec := "planTells", unfollowed := true, recurses := true, apart := false }
def PlanTellsSaid : Prop := planTellsRow.holds Try.pinned (OpenSpec.ofChange planTellsSpec)

/-- ITS FALSE NEIGHBOUR: 'it returns false'. Refute it at one input. -/
def planTellsWrong : ChangeSpec := { name := "planTells", fn := fun _ => fun
  | [d] => { results := [.lit (.bool false)], args := [d] }
  | _ => none }
def PlanTellsWrongFalsely : Prop := planTellsRow.holds Try.pinned (OpenSpec.ofChange planTellsWrong)

/-- 'nacellelaw13.PlanBent': WHATEVER THE INPUT: true; the input reads as it did. -/
def planBentSpec : ChangeSpec := { name := "planBent", fn := fun _ => fun
  | [d1, d2] => { results := [.lit (.bool true)], args := [d1, d2] }
  | _ => none }
def planBentRow : OpenClaim := { program := "ytlmbffnmjfbglab", sum := "ec771813ac51e18dfddacae25371d6d6c728acb285abf26ab988a66095fc0491", func := "nacelle/nacellelaw13.PlanBent", spec := "planBent", unfollowed := true, recurses := true, apart := false }
def PlanBentSaid : Prop := planBentRow.holds Try.pinned (OpenSpec.ofChange planBentSpec)

/-- ITS FALSE NEIGHBOUR: 'it returns false'. Refute it at one input. -/
def planBentWrong : ChangeSpec := { name := "planBent", fn := fun _ => fun
  | [d1, d2] => { results := [.lit (.bool false)], args := [d1, d2] }
  | _ => none }
def PlanBentWrongFalsely : Prop := planBentRow.holds Try.pinned (OpenSpec.ofChange planBentWrong)

/-- 'nacellelaw13.PlanConflicts': WHATEVER THE INPUT: true; the input reads as it did. -/
def planConflictsSpec : ChangeSpec := { name := "planConflicts", fn := fun _ => fun
  | [d1, d2, d3] => { results := [.lit (.bool true)], args := [d1, d2, d3] }
  | _ => none }
def planConflictsRow : OpenClaim := { program := "ytlmbffnmjfbglab", sum := "ec771813ac51e18dfddacae25371d6d6c728acb285abf26ab988a66095fc0491", func := "nacelle/nacellelaw13.PlanConflicts", spec := "planConflicts", unfollowed := true, recurses := true, apart := false }
def PlanConflictsSaid : Prop := planConflictsRow.holds Try.pinned (OpenSpec.ofChange planConflictsSpec)

/-- ITS FALSE NEIGHBOUR: 'it returns false'. Refute it at one input. -/
def planConflictsWrong : ChangeSpec := { name := "planConflicts", fn := fun _ => fun
  | [d1, d2, d3] => { results := [.lit (.bool false)], args := [d1, d2, d3] }
  | _ => none }
def PlanConflictsWrongFalsely : Prop := planConflictsRow.holds Try.pinned (OpenSpec.ofChange planConflictsWrong)

/-- 'nacellelaw13.PlanChecks': WHATEVER THE INPUT: true; the input reads as it did. -/
def planChecksSpec : ChangeSpec := { name := "planChecks", fn := fun _ => fun
  | [d1, d2, d3, d4] => { results := [.lit (.bool true)], args := [d1, d2, d3, d4] }
  | _ => none }
def planChecksRow : OpenClaim := { program := "ytlmbffnmjfbglab", sum := "ec771813ac51e18dfddacae25371d6d6c728acb285abf26ab988a66095fc0491", func := "nacelle/nacellelaw13.PlanChecks", spec := "planChecks", unfollowed := true, recurses := true, loops := true, apart := false }
def PlanChecksSaid : Prop := planChecksRow.holds Try.pinned (OpenSpec.ofChange planChecksSpec)

/-- ITS FALSE NEIGHBOUR: 'it returns false'. Refute it at one input. -/
def planChecksWrong : ChangeSpec := { name := "planChecks", fn := fun _ => fun
  | [d1, d2, d3, d4] => { results := [.lit (.bool false)], args := [d1, d2, d3, d4] }
  | _ => none }
def PlanChecksWrongFalsely : Prop := planChecksRow.holds Try.pinned (OpenSpec.ofChange planChecksWrong)

/-- 'nacellelaw13.PlanSmall': WHATEVER THE INPUT: true; the input reads as it did. -/
def planSmallSpec : ChangeSpec := { name := "planSmall", fn := fun _ => fun
  | [] => { results := [.lit (.bool true)], args := [] }
  | _ => none }
def planSmallRow : OpenClaim := { program := "ytlmbffnmjfbglab", sum := "ec771813ac51e18dfddacae25371d6d6c728acb285abf26ab988a66095fc0491", func := "nacelle/nacellelaw13.PlanSmall", spec := "planSmall", unfollowed := true, recurses := true, apart := false }
def PlanSmallSaid : Prop := planSmallRow.holds Try.pinned (OpenSpec.ofChange planSmallSpec)

/-- ITS FALSE NEIGHBOUR: 'it returns false'. Refute it at one input. -/
def planSmallWrong : ChangeSpec := { name := "planSmall", fn := fun _ => fun
  | [] => { results := [.lit (.bool false)], args := [] }
  | _ => none }
def PlanSmallWrongFalsely : Prop := planSmallRow.holds Try.pinned (OpenSpec.ofChange planSmallWrong)

/-- 'nacellelaw13.PlanLess': WHATEVER THE INPUT: true; the input reads as it did. -/
def planLessSpec : ChangeSpec := { name := "planLess", fn := fun _ => fun
  | [d1, d2] => { results := [.lit (.bool true)], args := [d1, d2] }
  | _ => none }
def planLessRow : OpenClaim := { program := "ytlmbffnmjfbglab", sum := "ec771813ac51e18dfddacae25371d6d6c728acb285abf26ab988a66095fc0491", func := "nacelle/nacellelaw13.PlanLess", spec := "planLess", unfollowed := true, recurses := true, apart := false }
def PlanLessSaid : Prop := planLessRow.holds Try.pinned (OpenSpec.ofChange planLessSpec)

/-- ITS FALSE NEIGHBOUR: 'it returns false'. Refute it at one input. -/
def planLessWrong : ChangeSpec := { name := "planLess", fn := fun _ => fun
  | [d1, d2] => { results := [.lit (.bool false)], args := [d1, d2] }
  | _ => none }
def PlanLessWrongFalsely : Prop := planLessRow.holds Try.pinned (OpenSpec.ofChange planLessWrong)

/-- 'nacellelaw13.PlanScaled': WHATEVER THE INPUT: true; the input reads as it did. -/
def planScaledSpec : ChangeSpec := { name := "planScaled", fn := fun _ => fun
  | [d1, d2] => { results := [.lit (.bool true)], args := [d1, d2] }
  | _ => none }
def planScaledRow : OpenClaim := { program := "ytlmbffnmjfbglab", sum := "ec771813ac51e18dfddacae25371d6d6c728acb285abf26ab988a66095fc0491", func := "nacelle/nacellelaw13.PlanScaled", spec := "planScaled", unfollowed := true, recurses := true, apart := false }
def PlanScaledSaid : Prop := planScaledRow.holds Try.pinned (OpenSpec.ofChange planScaledSpec)

/-- ITS FALSE NEIGHBOUR: 'it returns false'. Refute it at one input. -/
def planScaledWrong : ChangeSpec := { name := "planScaled", fn := fun _ => fun
  | [d1, d2] => { results := [.lit (.bool false)], args := [d1, d2] }
  | _ => none }
def PlanScaledWrongFalsely : Prop := planScaledRow.holds Try.pinned (OpenSpec.ofChange planScaledWrong)

/-- 'nacellelaw13.PlanDecides': WHATEVER THE INPUT: true; the input reads as it did. -/
def planDecidesSpec : ChangeSpec := { name := "planDecides", fn := fun _ => fun
  | [d] => { results := [.lit (.bool true)], args := [d] }
  | _ => none }
def planDecidesRow : OpenClaim := { program := "ytlmbffnmjfbglab", sum := "ec771813ac51e18dfddacae25371d6d6c728acb285abf26ab988a66095fc0491", func := "nacelle/nacellelaw13.PlanDecides", spec := "planDecides", unfollowed := true, recurses := true, apart := false }
def PlanDecidesSaid : Prop := planDecidesRow.holds Try.pinned (OpenSpec.ofChange planDecidesSpec)

/-- ITS FALSE NEIGHBOUR: 'it returns false'. Refute it at one input. -/
def planDecidesWrong : ChangeSpec := { name := "planDecides", fn := fun _ => fun
  | [d] => { results := [.lit (.bool false)], args := [d] }
  | _ => none }
def PlanDecidesWrongFalsely : Prop := planDecidesRow.holds Try.pinned (OpenSpec.ofChange planDecidesWrong)

/-- 'nacellelaw13.PlanSound': WHATEVER THE INPUT: true; the input reads as it did. -/
def planSoundSpec : ChangeSpec := { name := "planSound", fn := fun _ => fun
  | [d1, d2] => { results := [.lit (.bool true)], args := [d1, d2] }
  | _ => none }
def planSoundRow : OpenClaim := { program := "ytlmbffnmjfbglab", sum := "ec771813ac51e18dfddacae25371d6d6c728acb285abf26ab988a66095fc0491", func := "nacelle/nacellelaw13.PlanSound", spec := "planSound", unfollowed := true, recurses := true, loops := true, apart := false }
def PlanSoundSaid : Prop := planSoundRow.holds Try.pinned (OpenSpec.ofChange planSoundSpec)

/-- ITS FALSE NEIGHBOUR: 'it returns false'. Refute it at one input. -/
def planSoundWrong : ChangeSpec := { name := "planSound", fn := fun _ => fun
  | [d1, d2] => { results := [.lit (.bool false)], args := [d1, d2] }
  | _ => none }
def PlanSoundWrongFalsely : Prop := planSoundRow.holds Try.pinned (OpenSpec.ofChange planSoundWrong)

/- THE SECOND FORM. 'bulk': how many values and letters a reading holds, each counted each time it is reached (what is shared counts as often as it is met; a slice's spare places count too). A statement '..UptoSaid' is the law's where the arguments, and the package variables that the reading takes, are together of bulk at most 1048576: NARROWER than '..Said'. Prove '..Said' where nothing that the law and all that it calls make is longer than what came in: it says more and counts as full. Else prove '..UptoSaid'. A law counts once. -/
mutual
def uptoBulk {H : Type} : DataW H → Nat
  | .lit (.string bytes) => bytes.length + 1
  | .lit _ => 1
  | .nil => 1
  | .ptr d => uptoBulk d + 1
  | .slice elems spare => uptoBulkAll elems + uptoBulkAll spare + 1
  | .agg parts => uptoBulkAll parts + 1
  | .iface _ d => uptoBulk d + 1
  | .map entries => uptoBulkEntries entries + 1
  | .held _ => 1
def uptoBulkAll {H : Type} : List (DataW H) → Nat
  | [] => 0
  | d :: r => uptoBulk d + uptoBulkAll r
def uptoBulkEntries {H : Type} : List (Lit × DataW H) → Nat
  | [] => 0
  | x :: r => uptoBulkEntry x + uptoBulkEntries r
def uptoBulkEntry {H : Type} : Lit × DataW H → Nat
  | (.string bytes, d) => bytes.length + uptoBulk d + 1
  | (_, d) => uptoBulk d + 1
 end
def uptoSmall : (H : Type) → List (DataW H) → Bool := fun _ ds => decide (uptoBulkAll ds ≤ 1048576)
def OpenSpec.upto (s : _root_.Go.ChangeSpec) : _root_.Go.OpenSpec := { _root_.Go.OpenSpec.ofChange s with cond := some uptoSmall }

/-- 'nacellelaw13.PlanTells', WHERE WHAT IT READS IS OF BULK AT MOST 1048576: true; the input reads as it did. -/
def planTellsUptoRow : OpenClaim := { program := "ytlmbffnmjfbglab", sum := "ec771813ac51e18dfddacae25371d6d6c728acb285abf26ab988a66095fc0491", func := "nacelle/nacellelaw13.PlanTells", spec := "planTells", unfollowed := true, recurses := true, apart := false, narrowed := true }
def PlanTellsUptoSaid : Prop := planTellsUptoRow.holds Try.pinned (OpenSpec.upto planTellsSpec)

/-- 'nacellelaw13.PlanBent', WHERE WHAT IT READS IS OF BULK AT MOST 1048576: true; the input reads as it did. -/
def planBentUptoRow : OpenClaim := { program := "ytlmbffnmjfbglab", sum := "ec771813ac51e18dfddacae25371d6d6c728acb285abf26ab988a66095fc0491", func := "nacelle/nacellelaw13.PlanBent", spec := "planBent", unfollowed := true, recurses := true, apart := false, narrowed := true }
def PlanBentUptoSaid : Prop := planBentUptoRow.holds Try.pinned (OpenSpec.upto planBentSpec)

/-- 'nacellelaw13.PlanConflicts', WHERE WHAT IT READS IS OF BULK AT MOST 1048576: true; the input reads as it did. -/
def planConflictsUptoRow : OpenClaim := { program := "ytlmbffnmjfbglab", sum := "ec771813ac51e18dfddacae25371d6d6c728acb285abf26ab988a66095fc0491", func := "nacelle/nacellelaw13.PlanConflicts", spec := "planConflicts", unfollowed := true, recurses := true, apart := false, narrowed := true }
def PlanConflictsUptoSaid : Prop := planConflictsUptoRow.holds Try.pinned (OpenSpec.upto planConflictsSpec)

/-- 'nacellelaw13.PlanChecks', WHERE WHAT IT READS IS OF BULK AT MOST 1048576: true; the input reads as it did. -/
def planChecksUptoRow : OpenClaim := { program := "ytlmbffnmjfbglab", sum := "ec771813ac51e18dfddacae25371d6d6c728acb285abf26ab988a66095fc0491", func := "nacelle/nacellelaw13.PlanChecks", spec := "planChecks", unfollowed := true, recurses := true, loops := true, apart := false, narrowed := true }
def PlanChecksUptoSaid : Prop := planChecksUptoRow.holds Try.pinned (OpenSpec.upto planChecksSpec)

/-- 'nacellelaw13.PlanSmall', WHERE WHAT IT READS IS OF BULK AT MOST 1048576: true; the input reads as it did. -/
def planSmallUptoRow : OpenClaim := { program := "ytlmbffnmjfbglab", sum := "ec771813ac51e18dfddacae25371d6d6c728acb285abf26ab988a66095fc0491", func := "nacelle/nacellelaw13.PlanSmall", spec := "planSmall", unfollowed := true, recurses := true, apart := false, narrowed := true }
def PlanSmallUptoSaid : Prop := planSmallUptoRow.holds Try.pinned (OpenSpec.upto planSmallSpec)

/-- 'nacellelaw13.PlanLess', WHERE WHAT IT READS IS OF BULK AT MOST 1048576: true; the input reads as it did. -/
def planLessUptoRow : OpenClaim := { program := "ytlmbffnmjfbglab", sum := "ec771813ac51e18dfddacae25371d6d6c728acb285abf26ab988a66095fc0491", func := "nacelle/nacellelaw13.PlanLess", spec := "planLess", unfollowed := true, recurses := true, apart := false, narrowed := true }
def PlanLessUptoSaid : Prop := planLessUptoRow.holds Try.pinned (OpenSpec.upto planLessSpec)

/-- 'nacellelaw13.PlanScaled', WHERE WHAT IT READS IS OF BULK AT MOST 1048576: true; the input reads as it did. -/
def planScaledUptoRow : OpenClaim := { program := "ytlmbffnmjfbglab", sum := "ec771813ac51e18dfddacae25371d6d6c728acb285abf26ab988a66095fc0491", func := "nacelle/nacellelaw13.PlanScaled", spec := "planScaled", unfollowed := true, recurses := true, apart := false, narrowed := true }
def PlanScaledUptoSaid : Prop := planScaledUptoRow.holds Try.pinned (OpenSpec.upto planScaledSpec)

/-- 'nacellelaw13.PlanDecides', WHERE WHAT IT READS IS OF BULK AT MOST 1048576: true; the input reads as it did. -/
def planDecidesUptoRow : OpenClaim := { program := "ytlmbffnmjfbglab", sum := "ec771813ac51e18dfddacae25371d6d6c728acb285abf26ab988a66095fc0491", func := "nacelle/nacellelaw13.PlanDecides", spec := "planDecides", unfollowed := true, recurses := true, apart := false, narrowed := true }
def PlanDecidesUptoSaid : Prop := planDecidesUptoRow.holds Try.pinned (OpenSpec.upto planDecidesSpec)

/-- 'nacellelaw13.PlanSound', WHERE WHAT IT READS IS OF BULK AT MOST 1048576: true; the input reads as it did. -/
def planSoundUptoRow : OpenClaim := { program := "ytlmbffnmjfbglab", sum := "ec771813ac51e18dfddacae25371d6d6c728acb285abf26ab988a66095fc0491", func := "nacelle/nacellelaw13.PlanSound", spec := "planSound", unfollowed := true, recurses := true, loops := true, apart := false, narrowed := true }
def PlanSoundUptoSaid : Prop := planSoundUptoRow.holds Try.pinned (OpenSpec.upto planSoundSpec)

end Rows
end Go.Proofs.Ytlmbffnmjfbglab
