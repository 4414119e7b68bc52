/- The library's slices.Reverse of []api.Run, off the shelf, at this program. -/
import Derived.Test.YtjnhepgjkphkoaaMy8
import Derived.Test.YtjnhepgjkphkoaaProg
import Derived.Ground.SlgnProg
namespace Go.Proofs
open Go.Shelf
def Try.layRevQ78_ren : Go.Shelf.Ren := ⟨fun | 35 => 78 | n => n, fun | 22 => 29 | 23 => 35 | 3 => 3 | 4 => 4 | 0 => 0 | n => n, fun | n => n⟩
theorem Try.layRevQ78 : Go.Proofs.SlLaysE0.n35 Try.prog Try.layRevQ78_ren := {
  mixed := by kernel_rfl
  f35 := ⟨Try.f78.name, by decide, Try.func78.trans (congrArg some (by kernel_rfl))⟩
  t0 := Try.underlying0
  a0 := Try.isAgg0
  z0 := Try.sizeOf0
  v0 := Try.zeroValue0
  t3 := Try.underlying3
  a3 := Try.isAgg3
  z3 := Try.sizeOf3
  v3 := Try.zeroValue3
  t4 := Try.underlying4
  a4 := Try.isAgg4
  z4 := Try.sizeOf4
  v4 := Try.zeroValue4
  t22 := Try.underlying29
  a22 := Try.isAgg29
  z22 := Try.sizeOf29
  v22 := Try.zeroValue29 }
end Go.Proofs
