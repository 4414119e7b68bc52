-- PRINTED by print.py (a twelfth state) out of the translation. Not trusted: Lean checks it.
import Derived.Test.YtmkgihmchkphaaaPAccentNonex0
import Derived.Test.YtmkgihmchkphaaaPAccentNonex1
import Derived.Test.YtmkgihmchkphaaaPAccentNonex2
import Derived.Test.YtmkgihmchkphaaaPAccentNonex3
import Derived.Test.YtmkgihmchkphaaaPAccentNonex4
import Derived.Test.YtmkgihmchkphaaaPAccentNonex5
namespace Go.Proofs.Ytmkgihmchkphaaa.PAccentNone
open Go.RowKit Go.Proofs.YtmkgihmchkphaaaM Go.Proofs.YtmkgihmchkphaaaW.PrintWords Go.Proofs.YtmkgihmchkphaaaW.PrintLast Go.Proofs.YtmkgihmchkphaaaW.PrintMore
attribute [local go_sem] max2_int min2_int max_two min_two max_three min_three max_four min_four   -- for this text's walks alone
set_option linter.unusedVariables false
set_option linter.unusedSimpArgs false

end Go.Proofs.Ytmkgihmchkphaaa.PAccentNone
