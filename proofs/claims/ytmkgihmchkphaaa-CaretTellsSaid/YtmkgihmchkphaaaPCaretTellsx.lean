import Derived.Test.YtmkgihmchkphaaaPCaretTellsx0
import Derived.Test.YtmkgihmchkphaaaPCaretTellsx1
import Derived.Test.YtmkgihmchkphaaaPCaretTellsx2
import Derived.Test.YtmkgihmchkphaaaPCaretTellsx3
import Derived.Test.YtmkgihmchkphaaaPCaretTellsx4
import Derived.Test.YtmkgihmchkphaaaPCaretTellsx5
import Derived.Test.YtmkgihmchkphaaaPCaretTellsx6
import Derived.Test.YtmkgihmchkphaaaPCaretTellsx7
import Derived.Test.YtmkgihmchkphaaaPCaretTellsx8
import Derived.Test.YtmkgihmchkphaaaPCaretTellsx9
import Derived.Test.YtmkgihmchkphaaaPCaretTellsx10
import Derived.Test.YtmkgihmchkphaaaPCaretTellsx11
import Derived.Test.YtmkgihmchkphaaaPCaretTellsx12
namespace Go.Proofs.Ytmkgihmchkphaaa.PCaretTells
open Go.RowKit Go.Proofs.YtmkgihmchkphaaaM Go.Proofs.YtmkgihmchkphaaaW.PrintWords Go.Proofs.YtmkgihmchkphaaaW.PrintLast Go.Proofs.YtmkgihmchkphaaaW.PrintMore
attribute [local go_sem] max2_int min2_int max_two min_two max_three min_three max_four min_four   -- for this text's walks alone
set_option linter.unusedVariables false
set_option linter.unusedSimpArgs false
end Go.Proofs.Ytmkgihmchkphaaa.PCaretTells
