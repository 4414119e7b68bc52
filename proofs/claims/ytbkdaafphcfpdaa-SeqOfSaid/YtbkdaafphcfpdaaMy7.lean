import Derived.Test.YtbkdaafphcfpdaaWMore
namespace Go.Proofs.YtbkdaafphcfpdaaM
open Go.RowKit
theorem frozen_at_ {w w' : World} {m : Nat} {a : Addr} {b : Bool} (hq : w.drewN m = w') (h : w.frozen? a = b) : w'.frozen? a = b := by subst hq; exact h
end Go.Proofs.YtbkdaafphcfpdaaM
