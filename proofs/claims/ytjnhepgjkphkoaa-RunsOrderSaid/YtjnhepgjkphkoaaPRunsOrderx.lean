-- PRINTED by print.py (a twelfth state) out of the translation. Not trusted: Lean checks it.
import Derived.Test.YtjnhepgjkphkoaaPRunsOrderx0
import Derived.Test.YtjnhepgjkphkoaaPRunsOrderx1
import Derived.Test.YtjnhepgjkphkoaaPRunsOrderx2
import Derived.Test.YtjnhepgjkphkoaaPRunsOrderx3
import Derived.Test.YtjnhepgjkphkoaaPRunsOrderx4
import Derived.Test.YtjnhepgjkphkoaaPRunsOrderx5
import Derived.Test.YtjnhepgjkphkoaaPRunsOrderx6
namespace Go.Proofs.Ytjnhepgjkphkoaa.PRunsOrder
open Go.RowKit Go.Proofs.YtjnhepgjkphkoaaM Go.Proofs.YtjnhepgjkphkoaaW.PrintWords Go.Proofs.YtjnhepgjkphkoaaW.PrintLast Go.Proofs.YtjnhepgjkphkoaaW.PrintMore
attribute [local go_sem] max2_int min2_int max_two min_two max_three min_three max_four min_four   -- for this text's walks alone
set_option linter.unusedVariables false
set_option linter.unusedSimpArgs false

end Go.Proofs.Ytjnhepgjkphkoaa.PRunsOrder
