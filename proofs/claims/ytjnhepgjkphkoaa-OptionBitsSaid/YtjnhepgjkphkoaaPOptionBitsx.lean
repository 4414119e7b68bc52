import Derived.Test.YtjnhepgjkphkoaaPOptionBitsx0
import Derived.Test.YtjnhepgjkphkoaaPOptionBitsx1
import Derived.Test.YtjnhepgjkphkoaaPOptionBitsx2
import Derived.Test.YtjnhepgjkphkoaaPOptionBitsx3
import Derived.Test.YtjnhepgjkphkoaaPOptionBitsx4
import Derived.Test.YtjnhepgjkphkoaaPOptionBitsx5
import Derived.Test.YtjnhepgjkphkoaaPOptionBitsx6
import Derived.Test.YtjnhepgjkphkoaaPOptionBitsx7
namespace Go.Proofs.Ytjnhepgjkphkoaa.POptionBits
open Go.RowKit Go.Proofs.YtjnhepgjkphkoaaM Go.Proofs.YtjnhepgjkphkoaaW.PrintWords Go.Proofs.YtjnhepgjkphkoaaW.PrintLast Go.Proofs.YtjnhepgjkphkoaaW.PrintMore
attribute [local go_sem] max2_int min2_int max_two min_two max_three min_three max_four min_four   -- for this text's walks alone
set_option linter.unusedVariables false
set_option linter.unusedSimpArgs false
end Go.Proofs.Ytjnhepgjkphkoaa.POptionBits
