-- PRINTED by print.py (a twelfth state) out of the translation. Not trusted: Lean checks it.
import Derived.Test.YtimkacnkmoofdaaPOrderTellsx0
import Derived.Test.YtimkacnkmoofdaaPOrderTellsx1
import Derived.Test.YtimkacnkmoofdaaPOrderTellsx2
import Derived.Test.YtimkacnkmoofdaaPOrderTellsx3
import Derived.Test.YtimkacnkmoofdaaPOrderTellsx4
namespace Go.Proofs.Ytimkacnkmoofdaa.POrderTells
open Go.RowKit Go.Proofs.YtimkacnkmoofdaaM Go.Proofs.YtimkacnkmoofdaaW.PrintWords Go.Proofs.YtimkacnkmoofdaaW.PrintLast Go.Proofs.YtimkacnkmoofdaaW.PrintMore
attribute [local go_sem] max2_int min2_int max_two min_two max_three min_three max_four min_four   -- for this text's walks alone
set_option linter.unusedVariables false
set_option linter.unusedSimpArgs false

end Go.Proofs.Ytimkacnkmoofdaa.POrderTells
