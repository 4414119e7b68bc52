import Derived.Test.YtbkdaafphcfpdaaWInv
import Derived.Test.YtbkdaafphcfpdaaWFootNe
namespace Go.Proofs.YtbkdaafphcfpdaaW.PrintWords
open Go.RowKit
end Go.Proofs.YtbkdaafphcfpdaaW.PrintWords
namespace Go.Proofs.YtbkdaafphcfpdaaW.PrintLast
section
variable {ops : Array Oper} {a : Act} {o og : Oper} {g : Nat} {t : Tmp} {u : Bool}
end
end Go.Proofs.YtbkdaafphcfpdaaW.PrintLast
