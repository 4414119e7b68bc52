/- Words of ours: cells that are stored one by one add no block. -/
import Derived.Test.YtjnhepgjkphkoaaMy3
namespace Go.Proofs.YtjnhepgjkphkoaaM
open Go.RowKit
theorem size_setCells_ (b : Nat) : ∀ (vs : List Value) (o : Nat) (w : World), (w.setCells b o vs).heap.size = w.heap.size
  | [], _, _ => rfl
  | v :: vs, o, w => by rw [World.setCells, size_setCells_ b vs]; simp [World.setCell]
end Go.Proofs.YtjnhepgjkphkoaaM
