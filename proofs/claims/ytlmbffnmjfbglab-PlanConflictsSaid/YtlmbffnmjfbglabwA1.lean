/- The contract of awake. -/
import Derived.Test.YtlmbffnmjfbglabwX1
namespace Go.Proofs.Ytlmbffnmjfbglab
open Go.ChangeShapes Go.WideShapes Go.ChangeAt Go.RowKit

theorem RdInt.new (w : World) (l : List Int) (_hl : 0 < l.length) : RdInt (w.alloc (.cells (l.map (Value.int .i64)).toArray 3)) (w.heap.size + 1) (some ⟨w.heap.size, 0, none⟩) l := fun _ =>
  ⟨w.heap.size, 0, rfl, by omega, fun i hi => by
    rw [(Blk.new w 3 _).cell]; simp [hi]⟩

end Go.Proofs.Ytlmbffnmjfbglab
