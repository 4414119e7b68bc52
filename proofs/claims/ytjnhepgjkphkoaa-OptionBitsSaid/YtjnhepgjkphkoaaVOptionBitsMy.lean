import Derived.Test.YtjnhepgjkphkoaaVOptionBitsWLast
import Derived.Test.YtjnhepgjkphkoaaVOptionBitsWMore
import Derived.WalkSpells
import Derived.Lib.SliceRun
namespace Go.Proofs.YtjnhepgjkphkoaaM
open Go.RowKit Go.Proofs.YtjnhepgjkphkoaaW.PrintWords Go.Proofs.YtjnhepgjkphkoaaW.PrintLast
set_option linter.unusedVariables false
section
variable {P : Program} {ops : Array Oper} {o : Oper} {rest : List Oper} {a : Act} {Q : Exit → Act → World → Prop} {W : World}
end
end Go.Proofs.YtjnhepgjkphkoaaM
