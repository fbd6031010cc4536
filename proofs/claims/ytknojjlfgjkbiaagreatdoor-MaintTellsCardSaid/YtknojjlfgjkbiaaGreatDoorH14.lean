/- Texts Equal, joined. -/
import Derived.Shelf.SlMaps.Equal
import Derived.Shelf.SlGeneric
import Derived.Ground.SlmeProg
import Derived.Test.YtknojjlfgjkbiaaGreatDoorProg
set_option linter.unusedSimpArgs false
set_option linter.unusedVariables false
set_option linter.unusedSectionVars false
/-
  DERIVED: THE SHELF's CONTRACTS AT THIS DUMP, IN PLAIN WORDS (tools/lay-plain.mjs out of 'YtknojjlfgjkbiaaGreatDoorEqual.lean', which tools/lay-shelf.mjs wrote): THE SAME DECLARATIONS UNDER THE SAME NAMES: 'import', 'namespace', 'open', 'def', 'theorem' AND NOTHING ELSE: no command of the shelf's: FOR A HAND-IN. Each laying: the table of numbers ('.._ren') and one theorem, a field a fact of the dump's own or the kernel's comparison; each contract: ONE APPLICATION.
-/
namespace Go.Proofs
open Go.Shelf
def Tryz.equalMaps_ren : Go.Shelf.Ren := ⟨fun | 6 => 56 | n => n, fun | 23 => 79 | 24 => 79 | 26 => 9 | 27 => 3 | 4 => 4 | 3 => 3 | 0 => 0 | 36 => 141 | n => n, fun | n => n⟩
theorem Tryz.equalMaps : Go.Proofs.SlLaysEq.n6 Tryz.prog Tryz.equalMaps_ren := {
  mixed := by kernel_rfl
  f6 := ⟨Tryz.f56.name, by decide, Tryz.func56.trans (congrArg some (by kernel_rfl))⟩
  t0 := Tryz.underlying0
  a0 := Tryz.isAgg0
  z0 := Tryz.sizeOf0
  v0 := Tryz.zeroValue0
  t3 := Tryz.underlying3
  a3 := Tryz.isAgg3
  z3 := Tryz.sizeOf3
  v3 := Tryz.zeroValue3
  t4 := Tryz.underlying4
  a4 := Tryz.isAgg4
  z4 := Tryz.sizeOf4
  v4 := Tryz.zeroValue4
  t23 := Tryz.underlying79
  a23 := Tryz.isAgg79
  z23 := Tryz.sizeOf79
  v23 := Tryz.zeroValue79
  t24 := Tryz.underlying79
  a24 := Tryz.isAgg79
  z24 := Tryz.sizeOf79
  v24 := Tryz.zeroValue79
  a26 := Tryz.isAgg9
  z26 := Tryz.sizeOf9
  a27 := Tryz.isAgg3
  z27 := Tryz.sizeOf3
  t36 := Tryz.underlying141
  a36 := Tryz.isAgg141
  z36 := Tryz.sizeOf141 }
end Go.Proofs
