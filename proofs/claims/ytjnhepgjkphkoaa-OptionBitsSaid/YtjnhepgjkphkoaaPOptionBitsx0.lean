import Derived.Test.YtjnhepgjkphkoaaProg
import Derived.Below
import Derived.Deep.Draws
import Derived.Deep.AppendLies
import Derived.Maps.AppendAt
import Derived.OwnWalk
import Derived.Laws.BytesArg
import Derived.Laws.MakeOwn
import Derived.Laws.OwnMore
import Derived.Deep.OwnRows
import Derived.Tactics
import Derived.Lib.ConvBytes
import Derived.Laws.Slices
import Derived.WalkKit
import Derived.KernelRfl
import Derived.RowKit3
import Derived.Deep.LoopGhost
import Derived.Deep.QuietTactic
import Derived.BigQuiet
import Derived.WideLaws
import Derived.Deep.DeepCutAuto
import Derived.Deep.CutBlock
import Derived.Deep.RegionHeld3
import Derived.Laws.Rows
import Derived.Lib.AppendStr
import Derived.ArgAppend
import Derived.Laws.IdiomCopy
import Derived.OrdersHeld
import Derived.Laws.BitsLemmas
import Derived.RowKit
import Derived.WalkSpells
import Derived.Lib.SliceRun
import Derived.Test.YtjnhepgjkphkoaaVOptionBitsMy
import Derived.Test.YtjnhepgjkphkoaaVOptionBitsWWords
import Derived.Test.YtjnhepgjkphkoaaVOptionBitsWLast
import Derived.Test.YtjnhepgjkphkoaaVOptionBitsWTab
import Derived.Test.YtjnhepgjkphkoaaVOptionBitsWFour
import Derived.Test.YtjnhepgjkphkoaaVOptionBitsWQPut
import Derived.Test.YtjnhepgjkphkoaaVOptionBitsWApart
import Derived.Test.YtjnhepgjkphkoaaVOptionBitsWArr
import Derived.Test.YtjnhepgjkphkoaaVOptionBitsWZeros
import Derived.Test.YtjnhepgjkphkoaaVOptionBitsWFoot
import Derived.Test.YtjnhepgjkphkoaaVOptionBitsWKept
import Derived.Test.YtjnhepgjkphkoaaVOptionBitsWShare
import Derived.Test.YtjnhepgjkphkoaaVOptionBitsWN
import Derived.Test.YtjnhepgjkphkoaaVOptionBitsWFootNe
import Derived.Test.YtjnhepgjkphkoaaVOptionBitsWAt
import Derived.Test.YtjnhepgjkphkoaaVOptionBitsWEqStruct
import Derived.Test.YtjnhepgjkphkoaaVOptionBitsWRepsOne
import Derived.Test.YtjnhepgjkphkoaaVOptionBitsWInv
import Derived.Test.YtjnhepgjkphkoaaVOptionBitsWInvWords
import Derived.Test.YtjnhepgjkphkoaaVOptionBitsWGuard
import Derived.Test.YtjnhepgjkphkoaaVOptionBitsWNEv
import Derived.Test.YtjnhepgjkphkoaaVOptionBitsWMore
namespace Go.Proofs.Ytjnhepgjkphkoaa.POptionBits
open Go.RowKit Go.Proofs.YtjnhepgjkphkoaaM Go.Proofs.YtjnhepgjkphkoaaW.PrintWords Go.Proofs.YtjnhepgjkphkoaaW.PrintLast Go.Proofs.YtjnhepgjkphkoaaW.PrintMore
attribute [local go_sem] max2_int min2_int max_two min_two max_three min_three max_four min_four   -- for this text's walks alone
set_option linter.unusedVariables false
set_option linter.unusedSimpArgs false
def errW : Option Int → Value
  | none => .nilIface
  | some c => .iface 0 (.int .i64 c)
theorem errW_none : errW none = .nilIface := rfl
theorem errW_some (c : Int) : errW (some c) = .iface 0 (.int .i64 c) := rfl
theorem info4 : (Try.prog.info? 4).map (fun i => (i.zero, i.size, i.bytes)) = some (some (.bool false), 1, 1) := by kernel_rfl
end Go.Proofs.Ytjnhepgjkphkoaa.POptionBits
