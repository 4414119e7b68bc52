import Derived.Test.YtjnhepgjkphkoaaProg
import Derived.Below
import Derived.Deep.Draws
import Derived.Deep.AppendLies
import Derived.Maps.AppendAt
import Derived.OwnWalk
import Derived.Laws.BytesArg
import Derived.Laws.MakeOwn
import Derived.Laws.OwnMore
import Derived.Deep.OwnRows
import Derived.Tactics
import Derived.Lib.ConvBytes
import Derived.Laws.Slices
import Derived.WalkKit
import Derived.KernelRfl
import Derived.RowKit3
import Derived.Deep.LoopGhost
import Derived.Deep.QuietTactic
import Derived.BigQuiet
import Derived.WideLaws
import Derived.Deep.DeepCutAuto
import Derived.Deep.CutBlock
import Derived.Deep.RegionHeld3
import Derived.Laws.Rows
import Derived.Lib.AppendStr
import Derived.ArgAppend
import Derived.Laws.IdiomCopy
import Derived.OrdersHeld
import Derived.Laws.BitsLemmas
import Derived.RowKit
import Derived.WalkSpells
import Derived.Lib.SliceRun
import Derived.Test.YtjnhepgjkphkoaaVOptionBackMy
import Derived.Test.YtjnhepgjkphkoaaVOptionBackWWords
import Derived.Test.YtjnhepgjkphkoaaVOptionBackWLast
import Derived.Test.YtjnhepgjkphkoaaVOptionBackWTab
import Derived.Test.YtjnhepgjkphkoaaVOptionBackWFour
import Derived.Test.YtjnhepgjkphkoaaVOptionBackWQPut
import Derived.Test.YtjnhepgjkphkoaaVOptionBackWApart
import Derived.Test.YtjnhepgjkphkoaaVOptionBackWArr
import Derived.Test.YtjnhepgjkphkoaaVOptionBackWZeros
import Derived.Test.YtjnhepgjkphkoaaVOptionBackWFoot
import Derived.Test.YtjnhepgjkphkoaaVOptionBackWKept
import Derived.Test.YtjnhepgjkphkoaaVOptionBackWShare
import Derived.Test.YtjnhepgjkphkoaaVOptionBackWN
import Derived.Test.YtjnhepgjkphkoaaVOptionBackWFootNe
import Derived.Test.YtjnhepgjkphkoaaVOptionBackWAt
import Derived.Test.YtjnhepgjkphkoaaVOptionBackWEqStruct
import Derived.Test.YtjnhepgjkphkoaaVOptionBackWRepsOne
import Derived.Test.YtjnhepgjkphkoaaVOptionBackWInv
import Derived.Test.YtjnhepgjkphkoaaVOptionBackWInvWords
import Derived.Test.YtjnhepgjkphkoaaVOptionBackWGuard
import Derived.Test.YtjnhepgjkphkoaaVOptionBackWNEv
import Derived.Test.YtjnhepgjkphkoaaVOptionBackWMore
namespace Go.Proofs.Ytjnhepgjkphkoaa.POptionBack
open Go.RowKit Go.Proofs.YtjnhepgjkphkoaaM Go.Proofs.YtjnhepgjkphkoaaW.PrintWords Go.Proofs.YtjnhepgjkphkoaaW.PrintLast Go.Proofs.YtjnhepgjkphkoaaW.PrintMore
attribute [local go_sem] max2_int min2_int max_two min_two max_three min_three max_four min_four   -- for this text's walks alone
set_option linter.unusedVariables false
set_option linter.unusedSimpArgs false
def errW : Option Int → Value
  | none => .nilIface
  | some c => .iface 0 (.int .i64 c)
theorem errW_none : errW none = .nilIface := rfl
theorem errW_some (c : Int) : errW (some c) = .iface 0 (.int .i64 c) := rfl
theorem info4 : (Try.prog.info? 4).map (fun i => (i.zero, i.size, i.bytes)) = some (some (.bool false), 1, 1) := by kernel_rfl
end Go.Proofs.Ytjnhepgjkphkoaa.POptionBack
