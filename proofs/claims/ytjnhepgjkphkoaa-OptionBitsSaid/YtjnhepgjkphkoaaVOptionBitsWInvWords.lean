import Derived.Test.YtjnhepgjkphkoaaVOptionBitsWInv
import Derived.Test.YtjnhepgjkphkoaaVOptionBitsWFootNe
namespace Go.Proofs.YtjnhepgjkphkoaaW.PrintWords
open Go.RowKit
end Go.Proofs.YtjnhepgjkphkoaaW.PrintWords
namespace Go.Proofs.YtjnhepgjkphkoaaW.PrintLast
section
variable {ops : Array Oper} {a : Act} {o og : Oper} {g : Nat} {t : Tmp} {u : Bool}
end
end Go.Proofs.YtjnhepgjkphkoaaW.PrintLast
