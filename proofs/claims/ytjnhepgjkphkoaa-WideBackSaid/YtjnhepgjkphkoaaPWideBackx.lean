-- PRINTED by print.py (a twelfth state) out of the translation. Not trusted: Lean checks it.
import Derived.Test.YtjnhepgjkphkoaaPWideBackx0
import Derived.Test.YtjnhepgjkphkoaaPWideBackx1
import Derived.Test.YtjnhepgjkphkoaaPWideBackx2
import Derived.Test.YtjnhepgjkphkoaaPWideBackx3
namespace Go.Proofs.Ytjnhepgjkphkoaa.PWideBack
open Go.RowKit Go.Proofs.YtjnhepgjkphkoaaM Go.Proofs.YtjnhepgjkphkoaaW.PrintWords Go.Proofs.YtjnhepgjkphkoaaW.PrintLast Go.Proofs.YtjnhepgjkphkoaaW.PrintMore
attribute [local go_sem] max2_int min2_int max_two min_two max_three min_three max_four min_four   -- for this text's walks alone
set_option linter.unusedVariables false
set_option linter.unusedSimpArgs false

end Go.Proofs.Ytjnhepgjkphkoaa.PWideBack
