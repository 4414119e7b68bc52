/- The library's sort.Search, off the shelf, at this program. -/
import Derived.Test.YtljcohjafcjgdaaProg
import Derived.Shelf.SlSorted.Search
import Derived.Ground.SlsoProg
namespace Go.Proofs
open Go.Shelf
def Try.laySearch_ren : Go.Shelf.Ren := ⟨fun | 16 => 61 | n => n, fun | 3 => 3 | 35 => 53 | 4 => 4 | 38 => 76 | n => n, fun | n => n⟩
theorem Try.laySearch : Go.Proofs.SlLaysO.n16 Try.prog Try.laySearch_ren := {
  mixed := by kernel_rfl
  f16 := Try.func61.trans (congrArg some (by kernel_rfl))
  t3 := Try.underlying3
  a3 := Try.isAgg3
  z3 := Try.sizeOf3
  v3 := Try.zeroValue3
  t4 := Try.underlying4
  a4 := Try.isAgg4
  z4 := Try.sizeOf4
  v4 := Try.zeroValue4
  t35 := Try.underlying53
  a35 := Try.isAgg53
  z35 := Try.sizeOf53
  v35 := Try.zeroValue53
  t38 := Try.underlying76
  a38 := Try.isAgg76
  z38 := Try.sizeOf76
  v38 := Try.zeroValue76 }
end Go.Proofs
