import Derived.Test.YtjnhepgjkphkoaaVOptionBitsWLast
import Derived.Test.YtjnhepgjkphkoaaVOptionBitsWWords
namespace Go.Proofs.YtjnhepgjkphkoaaW.PrintLast
open Go.Proofs.YtjnhepgjkphkoaaW.PrintWords (Aside0)
section
variable {md : Region.Mode} {ops : Array Oper} {T : Bool × List (List Nat × List Nat)} {l l' li lj lk : Array Bool} {ds : List Nat} {i j k : Nat}
end
end Go.Proofs.YtjnhepgjkphkoaaW.PrintLast
