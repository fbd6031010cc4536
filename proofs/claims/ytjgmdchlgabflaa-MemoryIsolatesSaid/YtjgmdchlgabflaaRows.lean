/-
  No cell of these rows narrows 'for every input' (looked for: loops, veiled, ifaces, maps, wideKeys, modest, calm, conditions, laid).
  DERIVED. THE GIVEN ROWS OF THIS SEAT. 7 by the template 'for every input the law returns true; each argument reads behind the call as it read before'; 0 by the template 'total and deterministic' (their statements: YtjgmdchlgabflaaTotals.lean).
  GIVEN WITH THE SEED: the statements are not yours to turn. If you find one false, say at which input.
  Laid BY PROGRAM, IN A SANDBOX (cutbox-rows.mjs): the forced cells as the released guide's own fill.sh prints them over the translation 252f7c865a17a3f6… (all of the seat's roots in one cut). By AI agents, Wed Nov 11 2026. No macro, syntax, notation, axiom, sorry.
-/
import Derived.Test.YtjgmdchlgabflaaChecked
import GoSem.Claim
import GoSem.ClaimJoined
import GoSem.ClaimMapViews
import Derived.JoinedTies
import Derived.KernelRfl
namespace Go.Proofs.Ytjgmdchlgabflaa
/- THE CELL 'sum', in the pinned program and in every row, IS THE sha256 OF THE DUMP (.gsa) THAT YtjgmdchlgabflaaProg.lean LOADS. Nothing in Lean hashes anything: it is a label: what it is worth is what the hold of that sum in a sandbox is worth. -/
noncomputable def Try.pinned : Pinned := { name := "ytjgmdchlgabflaa", sum := "252f7c865a17a3f6e0aca7293df555608c11407ac5fc646ab4d56bd2ad94e1bf", checked := Try.checked }
namespace Rows
def none {H : Type} : Left H := { results := [], args := [] }

/-- 'nacellelaw11.MemoryMaps': WHATEVER THE INPUT: true; the input reads as it did. -/
def memoryMapsSpec : ChangeSpec := { name := "memoryMaps", fn := fun _ => fun
  | [d1, d2, d3, d4] => { results := [.lit (.bool true)], args := [d1, d2, d3, d4] }
  | _ => none }
def memoryMapsRow : OpenClaim := { program := "ytjgmdchlgabflaa", sum := "252f7c865a17a3f6e0aca7293df555608c11407ac5fc646ab4d56bd2ad94e1bf", func := "nacelle/nacellelaw11.MemoryMaps", spec := "memoryMaps", unfollowed := true, recurses := true, apart := false }
def MemoryMapsSaid : Prop := memoryMapsRow.holds Try.pinned (OpenSpec.ofChange memoryMapsSpec)

/-- ITS FALSE NEIGHBOUR: 'it returns false'. Refute it at one input. -/
def memoryMapsWrong : ChangeSpec := { name := "memoryMaps", fn := fun _ => fun
  | [d1, d2, d3, d4] => { results := [.lit (.bool false)], args := [d1, d2, d3, d4] }
  | _ => none }
def MemoryMapsWrongFalsely : Prop := memoryMapsRow.holds Try.pinned (OpenSpec.ofChange memoryMapsWrong)

/-- 'nacellelaw11.MemoryTight': WHATEVER THE INPUT: true; the input reads as it did. -/
def memoryTightSpec : ChangeSpec := { name := "memoryTight", fn := fun _ => fun
  | [d] => { results := [.lit (.bool true)], args := [d] }
  | _ => none }
def memoryTightRow : OpenClaim := { program := "ytjgmdchlgabflaa", sum := "252f7c865a17a3f6e0aca7293df555608c11407ac5fc646ab4d56bd2ad94e1bf", func := "nacelle/nacellelaw11.MemoryTight", spec := "memoryTight", unfollowed := true, recurses := true, apart := false }
def MemoryTightSaid : Prop := memoryTightRow.holds Try.pinned (OpenSpec.ofChange memoryTightSpec)

/-- ITS FALSE NEIGHBOUR: 'it returns false'. Refute it at one input. -/
def memoryTightWrong : ChangeSpec := { name := "memoryTight", fn := fun _ => fun
  | [d] => { results := [.lit (.bool false)], args := [d] }
  | _ => none }
def MemoryTightWrongFalsely : Prop := memoryTightRow.holds Try.pinned (OpenSpec.ofChange memoryTightWrong)

/-- 'nacellelaw11.MemoryNone': WHATEVER THE INPUT: true; the input reads as it did. -/
def memoryNoneSpec : ChangeSpec := { name := "memoryNone", fn := fun _ => fun
  | [d1, d2, d3] => { results := [.lit (.bool true)], args := [d1, d2, d3] }
  | _ => none }
def memoryNoneRow : OpenClaim := { program := "ytjgmdchlgabflaa", sum := "252f7c865a17a3f6e0aca7293df555608c11407ac5fc646ab4d56bd2ad94e1bf", func := "nacelle/nacellelaw11.MemoryNone", spec := "memoryNone", unfollowed := true, recurses := true, apart := false }
def MemoryNoneSaid : Prop := memoryNoneRow.holds Try.pinned (OpenSpec.ofChange memoryNoneSpec)

/-- ITS FALSE NEIGHBOUR: 'it returns false'. Refute it at one input. -/
def memoryNoneWrong : ChangeSpec := { name := "memoryNone", fn := fun _ => fun
  | [d1, d2, d3] => { results := [.lit (.bool false)], args := [d1, d2, d3] }
  | _ => none }
def MemoryNoneWrongFalsely : Prop := memoryNoneRow.holds Try.pinned (OpenSpec.ofChange memoryNoneWrong)

/-- 'nacellelaw11.MemoryTells': WHATEVER THE INPUT: true; the input reads as it did. -/
def memoryTellsSpec : ChangeSpec := { name := "memoryTells", fn := fun _ => fun
  | [d1, d2, d3] => { results := [.lit (.bool true)], args := [d1, d2, d3] }
  | _ => none }
def memoryTellsRow : OpenClaim := { program := "ytjgmdchlgabflaa", sum := "252f7c865a17a3f6e0aca7293df555608c11407ac5fc646ab4d56bd2ad94e1bf", func := "nacelle/nacellelaw11.MemoryTells", spec := "memoryTells", unfollowed := true, recurses := true, apart := false }
def MemoryTellsSaid : Prop := memoryTellsRow.holds Try.pinned (OpenSpec.ofChange memoryTellsSpec)

/-- ITS FALSE NEIGHBOUR: 'it returns false'. Refute it at one input. -/
def memoryTellsWrong : ChangeSpec := { name := "memoryTells", fn := fun _ => fun
  | [d1, d2, d3] => { results := [.lit (.bool false)], args := [d1, d2, d3] }
  | _ => none }
def MemoryTellsWrongFalsely : Prop := memoryTellsRow.holds Try.pinned (OpenSpec.ofChange memoryTellsWrong)

/-- 'nacellelaw11.MemoryApart': WHATEVER THE INPUT: true; the input reads as it did. -/
def memoryApartSpec : ChangeSpec := { name := "memoryApart", fn := fun _ => fun
  | [d] => { results := [.lit (.bool true)], args := [d] }
  | _ => none }
def memoryApartRow : OpenClaim := { program := "ytjgmdchlgabflaa", sum := "252f7c865a17a3f6e0aca7293df555608c11407ac5fc646ab4d56bd2ad94e1bf", func := "nacelle/nacellelaw11.MemoryApart", spec := "memoryApart", unfollowed := true, recurses := true, apart := false }
def MemoryApartSaid : Prop := memoryApartRow.holds Try.pinned (OpenSpec.ofChange memoryApartSpec)

/-- ITS FALSE NEIGHBOUR: 'it returns false'. Refute it at one input. -/
def memoryApartWrong : ChangeSpec := { name := "memoryApart", fn := fun _ => fun
  | [d] => { results := [.lit (.bool false)], args := [d] }
  | _ => none }
def MemoryApartWrongFalsely : Prop := memoryApartRow.holds Try.pinned (OpenSpec.ofChange memoryApartWrong)

/-- 'nacellelaw11.MemoryIsolates': WHATEVER THE INPUT: true; the input reads as it did. -/
def memoryIsolatesSpec : ChangeSpec := { name := "memoryIsolates", fn := fun _ => fun
  | [d1, d2, d3] => { results := [.lit (.bool true)], args := [d1, d2, d3] }
  | _ => none }
def memoryIsolatesRow : OpenClaim := { program := "ytjgmdchlgabflaa", sum := "252f7c865a17a3f6e0aca7293df555608c11407ac5fc646ab4d56bd2ad94e1bf", func := "nacelle/nacellelaw11.MemoryIsolates", spec := "memoryIsolates", unfollowed := true, recurses := true, apart := false }
def MemoryIsolatesSaid : Prop := memoryIsolatesRow.holds Try.pinned (OpenSpec.ofChange memoryIsolatesSpec)

/-- ITS FALSE NEIGHBOUR: 'it returns false'. Refute it at one input. -/
def memoryIsolatesWrong : ChangeSpec := { name := "memoryIsolates", fn := fun _ => fun
  | [d1, d2, d3] => { results := [.lit (.bool false)], args := [d1, d2, d3] }
  | _ => none }
def MemoryIsolatesWrongFalsely : Prop := memoryIsolatesRow.holds Try.pinned (OpenSpec.ofChange memoryIsolatesWrong)

/-- 'nacellelaw11.MemoryKeeps': WHATEVER THE INPUT: true; the input reads as it did. -/
def memoryKeepsSpec : ChangeSpec := { name := "memoryKeeps", fn := fun _ => fun
  | [d1, d2, d3, d4, d5] => { results := [.lit (.bool true)], args := [d1, d2, d3, d4, d5] }
  | _ => none }
def memoryKeepsRow : OpenClaim := { program := "ytjgmdchlgabflaa", sum := "252f7c865a17a3f6e0aca7293df555608c11407ac5fc646ab4d56bd2ad94e1bf", func := "nacelle/nacellelaw11.MemoryKeeps", spec := "memoryKeeps", unfollowed := true, recurses := true, apart := false }
def MemoryKeepsSaid : Prop := memoryKeepsRow.holds Try.pinned (OpenSpec.ofChange memoryKeepsSpec)

/-- ITS FALSE NEIGHBOUR: 'it returns false'. Refute it at one input. -/
def memoryKeepsWrong : ChangeSpec := { name := "memoryKeeps", fn := fun _ => fun
  | [d1, d2, d3, d4, d5] => { results := [.lit (.bool false)], args := [d1, d2, d3, d4, d5] }
  | _ => none }
def MemoryKeepsWrongFalsely : Prop := memoryKeepsRow.holds Try.pinned (OpenSpec.ofChange memoryKeepsWrong)

/- THE SECOND FORM. 'bulk': how many values and letters a reading holds, each counted each time it is reached (what is shared counts as often as it is met; a slice's spare places count too). A statement '..UptoSaid' is the law's where the arguments, and the package variables that the reading takes, are together of bulk at most 1048576: NARROWER than '..Said'. Prove '..Said' where nothing that the law and all that it calls make is longer than what came in: it says more and counts as full. Else prove '..UptoSaid'. A law counts once. -/
mutual
def uptoBulk {H : Type} : DataW H → Nat
  | .lit (.string bytes) => bytes.length + 1
  | .lit _ => 1
  | .nil => 1
  | .ptr d => uptoBulk d + 1
  | .slice elems spare => uptoBulkAll elems + uptoBulkAll spare + 1
  | .agg parts => uptoBulkAll parts + 1
  | .iface _ d => uptoBulk d + 1
  | .map entries => uptoBulkEntries entries + 1
  | .held _ => 1
def uptoBulkAll {H : Type} : List (DataW H) → Nat
  | [] => 0
  | d :: r => uptoBulk d + uptoBulkAll r
def uptoBulkEntries {H : Type} : List (Lit × DataW H) → Nat
  | [] => 0
  | x :: r => uptoBulkEntry x + uptoBulkEntries r
def uptoBulkEntry {H : Type} : Lit × DataW H → Nat
  | (.string bytes, d) => bytes.length + uptoBulk d + 1
  | (_, d) => uptoBulk d + 1
 end
def uptoSmall : (H : Type) → List (DataW H) → Bool := fun _ ds => decide (uptoBulkAll ds ≤ 1048576)
def OpenSpec.upto (s : _root_.Go.ChangeSpec) : _root_.Go.OpenSpec := { _root_.Go.OpenSpec.ofChange s with cond := some uptoSmall }

/-- 'nacellelaw11.MemoryMaps', WHERE WHAT IT READS IS OF BULK AT MOST 1048576: true; the input reads as it did. -/
def memoryMapsUptoRow : OpenClaim := { program := "ytjgmdchlgabflaa", sum := "252f7c865a17a3f6e0aca7293df555608c11407ac5fc646ab4d56bd2ad94e1bf", func := "nacelle/nacellelaw11.MemoryMaps", spec := "memoryMaps", unfollowed := true, recurses := true, apart := false, narrowed := true }
def MemoryMapsUptoSaid : Prop := memoryMapsUptoRow.holds Try.pinned (OpenSpec.upto memoryMapsSpec)

/-- 'nacellelaw11.MemoryTight', WHERE WHAT IT READS IS OF BULK AT MOST 1048576: true; the input reads as it did. -/
def memoryTightUptoRow : OpenClaim := { program := "ytjgmdchlgabflaa", sum := "252f7c865a17a3f6e0aca7293df555608c11407ac5fc646ab4d56bd2ad94e1bf", func := "nacelle/nacellelaw11.MemoryTight", spec := "memoryTight", unfollowed := true, recurses := true, apart := false, narrowed := true }
def MemoryTightUptoSaid : Prop := memoryTightUptoRow.holds Try.pinned (OpenSpec.upto memoryTightSpec)

/-- 'nacellelaw11.MemoryNone', WHERE WHAT IT READS IS OF BULK AT MOST 1048576: true; the input reads as it did. -/
def memoryNoneUptoRow : OpenClaim := { program := "ytjgmdchlgabflaa", sum := "252f7c865a17a3f6e0aca7293df555608c11407ac5fc646ab4d56bd2ad94e1bf", func := "nacelle/nacellelaw11.MemoryNone", spec := "memoryNone", unfollowed := true, recurses := true, apart := false, narrowed := true }
def MemoryNoneUptoSaid : Prop := memoryNoneUptoRow.holds Try.pinned (OpenSpec.upto memoryNoneSpec)

/-- 'nacellelaw11.MemoryTells', WHERE WHAT IT READS IS OF BULK AT MOST 1048576: true; the input reads as it did. -/
def memoryTellsUptoRow : OpenClaim := { program := "ytjgmdchlgabflaa", sum := "252f7c865a17a3f6e0aca7293df555608c11407ac5fc646ab4d56bd2ad94e1bf", func := "nacelle/nacellelaw11.MemoryTells", spec := "memoryTells", unfollowed := true, recurses := true, apart := false, narrowed := true }
def MemoryTellsUptoSaid : Prop := memoryTellsUptoRow.holds Try.pinned (OpenSpec.upto memoryTellsSpec)

/-- 'nacellelaw11.MemoryApart', WHERE WHAT IT READS IS OF BULK AT MOST 1048576: true; the input reads as it did. -/
def memoryApartUptoRow : OpenClaim := { program := "ytjgmdchlgabflaa", sum := "252f7c865a17a3f6e0aca7293df555608c11407ac5fc646ab4d56bd2ad94e1bf", func := "nacelle/nacellelaw11.MemoryApart", spec := "memoryApart", unfollowed := true, recurses := true, apart := false, narrowed := true }
def MemoryApartUptoSaid : Prop := memoryApartUptoRow.holds Try.pinned (OpenSpec.upto memoryApartSpec)

/-- 'nacellelaw11.MemoryIsolates', WHERE WHAT IT READS IS OF BULK AT MOST 1048576: true; the input reads as it did. -/
def memoryIsolatesUptoRow : OpenClaim := { program := "ytjgmdchlgabflaa", sum := "252f7c865a17a3f6e0aca7293df555608c11407ac5fc646ab4d56bd2ad94e1bf", func := "nacelle/nacellelaw11.MemoryIsolates", spec := "memoryIsolates", unfollowed := true, recurses := true, apart := false, narrowed := true }
def MemoryIsolatesUptoSaid : Prop := memoryIsolatesUptoRow.holds Try.pinned (OpenSpec.upto memoryIsolatesSpec)

/-- 'nacellelaw11.MemoryKeeps', WHERE WHAT IT READS IS OF BULK AT MOST 1048576: true; the input reads as it did. -/
def memoryKeepsUptoRow : OpenClaim := { program := "ytjgmdchlgabflaa", sum := "252f7c865a17a3f6e0aca7293df555608c11407ac5fc646ab4d56bd2ad94e1bf", func := "nacelle/nacellelaw11.MemoryKeeps", spec := "memoryKeeps", unfollowed := true, recurses := true, apart := false, narrowed := true }
def MemoryKeepsUptoSaid : Prop := memoryKeepsUptoRow.holds Try.pinned (OpenSpec.upto memoryKeepsSpec)

end Rows
end Go.Proofs.Ytjgmdchlgabflaa
