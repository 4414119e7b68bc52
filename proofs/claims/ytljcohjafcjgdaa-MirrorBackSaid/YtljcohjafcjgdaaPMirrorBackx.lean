-- PRINTED by print.py (a twelfth state) out of the translation. Not trusted: Lean checks it.
import Derived.Test.YtljcohjafcjgdaaPMirrorBackx0
import Derived.Test.YtljcohjafcjgdaaPMirrorBackx1
import Derived.Test.YtljcohjafcjgdaaPMirrorBackx2
namespace Go.Proofs.Ytljcohjafcjgdaa.PMirrorBack
open Go.RowKit Go.Proofs.YtljcohjafcjgdaaM Go.Proofs.YtljcohjafcjgdaaW.PrintWords Go.Proofs.YtljcohjafcjgdaaW.PrintLast Go.Proofs.YtljcohjafcjgdaaW.PrintMore
attribute [local go_sem] max2_int min2_int max_two min_two max_three min_three max_four min_four   -- for this text's walks alone
set_option linter.unusedVariables false
set_option linter.unusedSimpArgs false

end Go.Proofs.Ytljcohjafcjgdaa.PMirrorBack
