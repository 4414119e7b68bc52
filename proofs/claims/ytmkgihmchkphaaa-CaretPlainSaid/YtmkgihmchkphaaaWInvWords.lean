import Derived.Test.YtmkgihmchkphaaaWInv
import Derived.Test.YtmkgihmchkphaaaWFootNe
namespace Go.Proofs.YtmkgihmchkphaaaW.PrintWords
open Go.RowKit
end Go.Proofs.YtmkgihmchkphaaaW.PrintWords
namespace Go.Proofs.YtmkgihmchkphaaaW.PrintLast
section
variable {ops : Array Oper} {a : Act} {o og : Oper} {g : Nat} {t : Tmp} {u : Bool}
end
end Go.Proofs.YtmkgihmchkphaaaW.PrintLast
