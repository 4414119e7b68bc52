import Derived.Test.YtmkgihmchkphaaaWLast
import Derived.Test.YtmkgihmchkphaaaWMore
import Derived.WalkSpells
import Derived.Lib.SliceRun
namespace Go.Proofs.YtmkgihmchkphaaaM
open Go.RowKit Go.Proofs.YtmkgihmchkphaaaW.PrintWords Go.Proofs.YtmkgihmchkphaaaW.PrintLast
set_option linter.unusedVariables false
section
variable {P : Program} {ops : Array Oper} {o : Oper} {rest : List Oper} {a : Act} {Q : Exit → Act → World → Prop} {W : World}
end
end Go.Proofs.YtmkgihmchkphaaaM
