-- PRINTED by print.py (a twelfth state) out of the translation. Not trusted: Lean checks it.
import Derived.Test.YtmkgihmchkphaaaPCaretPlainx0
import Derived.Test.YtmkgihmchkphaaaPCaretPlainx1
import Derived.Test.YtmkgihmchkphaaaPCaretPlainx2
import Derived.Test.YtmkgihmchkphaaaPCaretPlainx3
import Derived.Test.YtmkgihmchkphaaaPCaretPlainx4
import Derived.Test.YtmkgihmchkphaaaPCaretPlainx5
import Derived.Test.YtmkgihmchkphaaaPCaretPlainx6
import Derived.Test.YtmkgihmchkphaaaPCaretPlainx7
import Derived.Test.YtmkgihmchkphaaaPCaretPlainx8
import Derived.Test.YtmkgihmchkphaaaPCaretPlainx9
namespace Go.Proofs.Ytmkgihmchkphaaa.PCaretPlain
open Go.RowKit Go.Proofs.YtmkgihmchkphaaaM Go.Proofs.YtmkgihmchkphaaaW.PrintWords Go.Proofs.YtmkgihmchkphaaaW.PrintLast Go.Proofs.YtmkgihmchkphaaaW.PrintMore
attribute [local go_sem] max2_int min2_int max_two min_two max_three min_three max_four min_four   -- for this text's walks alone
set_option linter.unusedVariables false
set_option linter.unusedSimpArgs false

end Go.Proofs.Ytmkgihmchkphaaa.PCaretPlain
