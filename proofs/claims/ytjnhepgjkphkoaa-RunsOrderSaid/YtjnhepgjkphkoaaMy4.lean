/- The library's slices.Reverse of []int, off the shelf, at this program. -/
import Derived.Test.YtjnhepgjkphkoaaProg
import Derived.WalkKit
import Derived.Ground.NamesProg
import Derived.Shelf.Slices.Cells
import Derived.Deep.Upon
namespace Go.Proofs
open Go.Shelf
def Try.layRev_ren : Go.Shelf.Ren := ⟨fun | 112 => 81 | n => n, fun | 28 => 28 | 3 => 3 | 4 => 4 | 0 => 0 | n => n, fun | n => n⟩
theorem Try.layRev : Go.Proofs.Lays.n112 Try.prog Try.layRev_ren := {
  mixed := by kernel_rfl
  f112 := Try.func81.trans (congrArg some (by kernel_rfl))
  t0 := Try.underlying0
  a0 := Try.isAgg0
  z0 := Try.sizeOf0
  v0 := Try.zeroValue0
  t3 := Try.underlying3
  a3 := Try.isAgg3
  z3 := Try.sizeOf3
  v3 := Try.zeroValue3
  t4 := Try.underlying4
  a4 := Try.isAgg4
  z4 := Try.sizeOf4
  v4 := Try.zeroValue4
  t28 := Try.underlying28
  a28 := Try.isAgg28
  z28 := Try.sizeOf28
  v28 := Try.zeroValue28 }
end Go.Proofs
