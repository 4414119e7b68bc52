/- The library's slices.Reverse of []int, off the shelf, at this program. -/
import Derived.Test.YtmkgihmchkphaaaProg
import Derived.WalkKit
import Derived.Ground.NamesProg
import Derived.Shelf.Lay
import Derived.Shelf.Slices.Cells
import Derived.Deep.Upon
namespace Go.Proofs
open Go.Shelf
shelf_lay Lays.n112 Nm 112 at Try as Try.layRev
end Go.Proofs
