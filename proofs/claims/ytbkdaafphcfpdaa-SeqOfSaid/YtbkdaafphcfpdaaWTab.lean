import Derived.Test.YtbkdaafphcfpdaaWLast
import Derived.Test.YtbkdaafphcfpdaaWWords
namespace Go.Proofs.YtbkdaafphcfpdaaW.PrintLast
open Go.Proofs.YtbkdaafphcfpdaaW.PrintWords (Aside0)
section
variable {md : Region.Mode} {ops : Array Oper} {T : Bool × List (List Nat × List Nat)} {l l' li lj lk : Array Bool} {ds : List Nat} {i j k : Nat}
end
end Go.Proofs.YtbkdaafphcfpdaaW.PrintLast
