/- The library's sort.Search, off the shelf, at this program. -/
import Derived.Test.YtljcohjafcjgdaaProg
import Derived.Shelf.SlSorted.Search
import Derived.Shelf.Lay
import Derived.Ground.SlsoProg
namespace Go.Proofs
open Go.Shelf
-- 61
shelf_lay SlLaysO.n16 Slso 16 at Try as Try.laySearch
end Go.Proofs
