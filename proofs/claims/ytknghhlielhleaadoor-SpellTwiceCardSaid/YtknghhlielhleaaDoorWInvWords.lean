import Derived.Test.YtknghhlielhleaaDoorWInv
import Derived.Test.YtknghhlielhleaaDoorWFootNe
namespace Go.Proofs.YtknghhlielhleaaDoorW.PrintWords
open Go.RowKit
end Go.Proofs.YtknghhlielhleaaDoorW.PrintWords
namespace Go.Proofs.YtknghhlielhleaaDoorW.PrintLast
section
variable {ops : Array Oper} {a : Act} {o og : Oper} {g : Nat} {t : Tmp} {u : Bool}
end
end Go.Proofs.YtknghhlielhleaaDoorW.PrintLast
