-- PRINTED by print.py (a twelfth state) out of the translation. Not trusted: Lean checks it.
import Derived.Test.YtjnhepgjkphkoaaPOptionChecksx0
import Derived.Test.YtjnhepgjkphkoaaPOptionChecksx1
import Derived.Test.YtjnhepgjkphkoaaPOptionChecksx2
import Derived.Test.YtjnhepgjkphkoaaPOptionChecksx3
import Derived.Test.YtjnhepgjkphkoaaPOptionChecksx4
import Derived.Test.YtjnhepgjkphkoaaPOptionChecksx5
import Derived.Test.YtjnhepgjkphkoaaPOptionChecksx6
namespace Go.Proofs.Ytjnhepgjkphkoaa.POptionChecks
open Go.RowKit Go.Proofs.YtjnhepgjkphkoaaM Go.Proofs.YtjnhepgjkphkoaaW.PrintWords Go.Proofs.YtjnhepgjkphkoaaW.PrintLast Go.Proofs.YtjnhepgjkphkoaaW.PrintMore
attribute [local go_sem] max2_int min2_int max_two min_two max_three min_three max_four min_four   -- for this text's walks alone
set_option linter.unusedVariables false
set_option linter.unusedSimpArgs false

end Go.Proofs.Ytjnhepgjkphkoaa.POptionChecks
