-- PRINTED by print.py (a twelfth state) out of the translation. Not trusted: Lean checks it.
import Derived.Test.YtmkgihmchkphaaaPCaretHitsx0
import Derived.Test.YtmkgihmchkphaaaPCaretHitsx1
import Derived.Test.YtmkgihmchkphaaaPCaretHitsx2
import Derived.Test.YtmkgihmchkphaaaPCaretHitsx3
import Derived.Test.YtmkgihmchkphaaaPCaretHitsx4
import Derived.Test.YtmkgihmchkphaaaPCaretHitsx5
import Derived.Test.YtmkgihmchkphaaaPCaretHitsx6
import Derived.Test.YtmkgihmchkphaaaPCaretHitsx7
import Derived.Test.YtmkgihmchkphaaaPCaretHitsx8
import Derived.Test.YtmkgihmchkphaaaPCaretHitsx9
namespace Go.Proofs.Ytmkgihmchkphaaa.PCaretHits
open Go.RowKit Go.Proofs.YtmkgihmchkphaaaM Go.Proofs.YtmkgihmchkphaaaW.PrintWords Go.Proofs.YtmkgihmchkphaaaW.PrintLast Go.Proofs.YtmkgihmchkphaaaW.PrintMore
attribute [local go_sem] max2_int min2_int max_two min_two max_three min_three max_four min_four   -- for this text's walks alone
set_option linter.unusedVariables false
set_option linter.unusedSimpArgs false

end Go.Proofs.Ytmkgihmchkphaaa.PCaretHits
