-- PRINTED by print.py (a twelfth state) out of the translation. Not trusted: Lean checks it.
import Derived.Test.YtbkdaafphcfpdaaPExplicitLevelsx0
import Derived.Test.YtbkdaafphcfpdaaPExplicitLevelsx1
import Derived.Test.YtbkdaafphcfpdaaPExplicitLevelsx2
import Derived.Test.YtbkdaafphcfpdaaPExplicitLevelsx3
import Derived.Test.YtbkdaafphcfpdaaPExplicitLevelsx4
import Derived.Test.YtbkdaafphcfpdaaPExplicitLevelsx5
import Derived.Test.YtbkdaafphcfpdaaPExplicitLevelsx6
import Derived.Test.YtbkdaafphcfpdaaPExplicitLevelsx7
namespace Go.Proofs.Ytbkdaafphcfpdaa.PExplicitLevels
open Go.RowKit Go.Proofs.YtbkdaafphcfpdaaM Go.Proofs.YtbkdaafphcfpdaaW.PrintWords Go.Proofs.YtbkdaafphcfpdaaW.PrintLast Go.Proofs.YtbkdaafphcfpdaaW.PrintMore
attribute [local go_sem] max2_int min2_int max_two min_two max_three min_three max_four min_four   -- for this text's walks alone
set_option linter.unusedVariables false
set_option linter.unusedSimpArgs false

end Go.Proofs.Ytbkdaafphcfpdaa.PExplicitLevels
