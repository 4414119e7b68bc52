import Derived.Test.YtknghhlielhleaaDoorWLast
import Derived.Test.YtknghhlielhleaaDoorWMore
import Derived.WalkSpells
import Derived.Lib.SliceRun
namespace Go.Proofs.YtknghhlielhleaaDoorM
open Go.RowKit Go.Proofs.YtknghhlielhleaaDoorW.PrintWords Go.Proofs.YtknghhlielhleaaDoorW.PrintLast
set_option linter.unusedVariables false
section
variable {P : Program} {ops : Array Oper} {o : Oper} {rest : List Oper} {a : Act} {Q : Exit → Act → World → Prop} {W : World}
end
end Go.Proofs.YtknghhlielhleaaDoorM
