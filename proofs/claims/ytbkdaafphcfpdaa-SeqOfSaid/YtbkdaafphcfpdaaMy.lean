import Derived.Test.YtbkdaafphcfpdaaWLast
import Derived.Test.YtbkdaafphcfpdaaWMore
import Derived.WalkSpells
import Derived.Lib.SliceRun
namespace Go.Proofs.YtbkdaafphcfpdaaM
open Go.RowKit Go.Proofs.YtbkdaafphcfpdaaW.PrintWords Go.Proofs.YtbkdaafphcfpdaaW.PrintLast
set_option linter.unusedVariables false
section
variable {P : Program} {ops : Array Oper} {o : Oper} {rest : List Oper} {a : Act} {Q : Exit → Act → World → Prop} {W : World}
end
end Go.Proofs.YtbkdaafphcfpdaaM
