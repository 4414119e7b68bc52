import Derived.Test.YtknghhlielhleaaDoorWLast
import Derived.Test.YtknghhlielhleaaDoorWWords
namespace Go.Proofs.YtknghhlielhleaaDoorW.PrintLast
open Go.Proofs.YtknghhlielhleaaDoorW.PrintWords (Aside0)
section
variable {md : Region.Mode} {ops : Array Oper} {T : Bool × List (List Nat × List Nat)} {l l' li lj lk : Array Bool} {ds : List Nat} {i j k : Nat}
end
end Go.Proofs.YtknghhlielhleaaDoorW.PrintLast
