import Derived.Test.YtjnhepgjkphkoaaPOptionBackx0
import Derived.Test.YtjnhepgjkphkoaaPOptionBackx1
import Derived.Test.YtjnhepgjkphkoaaPOptionBackx2
import Derived.Test.YtjnhepgjkphkoaaPOptionBackx3
import Derived.Test.YtjnhepgjkphkoaaPOptionBackx4
import Derived.Test.YtjnhepgjkphkoaaPOptionBackx5
import Derived.Test.YtjnhepgjkphkoaaPOptionBackx6
import Derived.Test.YtjnhepgjkphkoaaPOptionBackx7
namespace Go.Proofs.Ytjnhepgjkphkoaa.POptionBack
open Go.RowKit Go.Proofs.YtjnhepgjkphkoaaM Go.Proofs.YtjnhepgjkphkoaaW.PrintWords Go.Proofs.YtjnhepgjkphkoaaW.PrintLast Go.Proofs.YtjnhepgjkphkoaaW.PrintMore
attribute [local go_sem] max2_int min2_int max_two min_two max_three min_three max_four min_four   -- for this text's walks alone
set_option linter.unusedVariables false
set_option linter.unusedSimpArgs false
end Go.Proofs.Ytjnhepgjkphkoaa.POptionBack
