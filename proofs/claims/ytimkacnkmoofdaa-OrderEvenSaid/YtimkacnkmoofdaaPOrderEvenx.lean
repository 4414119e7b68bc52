-- PRINTED by print.py (a twelfth state) out of the translation. Not trusted: Lean checks it.
import Derived.Test.YtimkacnkmoofdaaPOrderEvenx0
import Derived.Test.YtimkacnkmoofdaaPOrderEvenx1
import Derived.Test.YtimkacnkmoofdaaPOrderEvenx2
import Derived.Test.YtimkacnkmoofdaaPOrderEvenx3
namespace Go.Proofs.Ytimkacnkmoofdaa.POrderEven
open Go.RowKit Go.Proofs.YtimkacnkmoofdaaM Go.Proofs.YtimkacnkmoofdaaW.PrintWords Go.Proofs.YtimkacnkmoofdaaW.PrintLast Go.Proofs.YtimkacnkmoofdaaW.PrintMore
attribute [local go_sem] max2_int min2_int max_two min_two max_three min_three max_four min_four   -- for this text's walks alone
set_option linter.unusedVariables false
set_option linter.unusedSimpArgs false

end Go.Proofs.Ytimkacnkmoofdaa.POrderEven
