import Derived.Test.YtbkdaafphcfpdaaPSeqTellsx0
import Derived.Test.YtbkdaafphcfpdaaPSeqTellsx1
import Derived.Test.YtbkdaafphcfpdaaPSeqTellsx2
import Derived.Test.YtbkdaafphcfpdaaPSeqTellsx3
import Derived.Test.YtbkdaafphcfpdaaPSeqTellsx4
import Derived.Test.YtbkdaafphcfpdaaPSeqTellsx5
import Derived.Test.YtbkdaafphcfpdaaPSeqTellsx6
import Derived.Test.YtbkdaafphcfpdaaPSeqTellsx7
import Derived.Test.YtbkdaafphcfpdaaPSeqTellsx8
namespace Go.Proofs.Ytbkdaafphcfpdaa.PSeqTells
open Go.RowKit Go.Proofs.YtbkdaafphcfpdaaM Go.Proofs.YtbkdaafphcfpdaaW.PrintWords Go.Proofs.YtbkdaafphcfpdaaW.PrintLast Go.Proofs.YtbkdaafphcfpdaaW.PrintMore
attribute [local go_sem] max2_int min2_int max_two min_two max_three min_three max_four min_four   -- for this text's walks alone
set_option linter.unusedVariables false
set_option linter.unusedSimpArgs false
end Go.Proofs.Ytbkdaafphcfpdaa.PSeqTells
