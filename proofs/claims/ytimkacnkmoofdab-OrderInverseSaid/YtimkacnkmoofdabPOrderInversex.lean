-- PRINTED by print.py (a twelfth state) out of the translation. Not trusted: Lean checks it.
import Derived.Test.YtimkacnkmoofdabPOrderInversex0
import Derived.Test.YtimkacnkmoofdabPOrderInversex1
import Derived.Test.YtimkacnkmoofdabPOrderInversex2
import Derived.Test.YtimkacnkmoofdabPOrderInversex3
import Derived.Test.YtimkacnkmoofdabPOrderInversex4
namespace Go.Proofs.Ytimkacnkmoofdab.POrderInverse
open Go.RowKit Go.Proofs.YtimkacnkmoofdabM Go.Proofs.YtimkacnkmoofdabW.PrintWords Go.Proofs.YtimkacnkmoofdabW.PrintLast Go.Proofs.YtimkacnkmoofdabW.PrintMore
attribute [local go_sem] max2_int min2_int max_two min_two max_three min_three max_four min_four   -- for this text's walks alone
set_option linter.unusedVariables false
set_option linter.unusedSimpArgs false

end Go.Proofs.Ytimkacnkmoofdab.POrderInverse
