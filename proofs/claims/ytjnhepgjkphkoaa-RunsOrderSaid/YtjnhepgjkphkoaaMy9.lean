/- The library's slices.Reverse of []api.Run, off the shelf, at this program. -/
import Derived.Test.YtjnhepgjkphkoaaMy8
import Derived.Test.YtjnhepgjkphkoaaProg
import Derived.Ground.SlgnProg
namespace Go.Proofs
open Go.Shelf
shelf_lay_g SlLaysE0.n35 Slgn 35 at Try 78 as Try.layRevQ78
end Go.Proofs
