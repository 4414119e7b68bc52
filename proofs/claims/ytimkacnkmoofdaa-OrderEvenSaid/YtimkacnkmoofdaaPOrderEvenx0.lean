-- PRINTED by print.py (a twelfth state) out of the translation. Not trusted: Lean checks it.
import Derived.Test.YtimkacnkmoofdaaProg
import Derived.Below
import Derived.Deep.Draws
import Derived.Deep.AppendLies
import Derived.Maps.AppendAt
import Derived.OwnWalk
import Derived.Laws.BytesArg
import Derived.Laws.MakeOwn
import Derived.Laws.OwnMore
import Derived.Deep.OwnRows
import Derived.Tactics
import Derived.Lib.ConvBytes
import Derived.Laws.Slices
import Derived.WalkKit
import Derived.KernelRfl
import Derived.RowKit3
import Derived.Deep.LoopGhost
import Derived.Deep.QuietTactic
import Derived.BigQuiet
import Derived.WideLaws
import Derived.Deep.DeepCutAuto
import Derived.Deep.CutBlock
import Derived.Deep.RegionHeld3
import Derived.Laws.Rows
import Derived.Lib.AppendStr
import Derived.ArgAppend
import Derived.Laws.IdiomCopy
import Derived.OrdersHeld
import Derived.Laws.BitsLemmas
import Derived.RowKit
import Derived.Test.YtimkacnkmoofdaaMy3
import Derived.Test.YtimkacnkmoofdaaMy4
import Derived.WalkSpells
import Derived.Lib.SliceRun
import Derived.Test.YtimkacnkmoofdaaMy
import Derived.Test.YtimkacnkmoofdaaWWords
import Derived.Test.YtimkacnkmoofdaaWLast
import Derived.Test.YtimkacnkmoofdaaWTab
import Derived.Test.YtimkacnkmoofdaaWFour
import Derived.Test.YtimkacnkmoofdaaWQPut
import Derived.Test.YtimkacnkmoofdaaWApart
import Derived.Test.YtimkacnkmoofdaaWArr
import Derived.Test.YtimkacnkmoofdaaWZeros
import Derived.Test.YtimkacnkmoofdaaWFoot
import Derived.Test.YtimkacnkmoofdaaWKept
import Derived.Test.YtimkacnkmoofdaaWShare
import Derived.Test.YtimkacnkmoofdaaWN
import Derived.Test.YtimkacnkmoofdaaWFootNe
import Derived.Test.YtimkacnkmoofdaaWAt
import Derived.Test.YtimkacnkmoofdaaWEqStruct
import Derived.Test.YtimkacnkmoofdaaWRepsOne
import Derived.Test.YtimkacnkmoofdaaWInv
import Derived.Test.YtimkacnkmoofdaaWInvWords
import Derived.Test.YtimkacnkmoofdaaWGuard
import Derived.Test.YtimkacnkmoofdaaWNEv
import Derived.Test.YtimkacnkmoofdaaWMore
namespace Go.Proofs.Ytimkacnkmoofdaa.POrderEven
open Go.RowKit Go.Proofs.YtimkacnkmoofdaaM Go.Proofs.YtimkacnkmoofdaaW.PrintWords Go.Proofs.YtimkacnkmoofdaaW.PrintLast Go.Proofs.YtimkacnkmoofdaaW.PrintMore
attribute [local go_sem] max2_int min2_int max_two min_two max_three min_three max_four min_four   -- for this text's walks alone
set_option linter.unusedVariables false
set_option linter.unusedSimpArgs false



def errW : Option Int → Value
  | none => .nilIface
  | some c => .iface 0 (.int .i64 c)
theorem errW_none : errW none = .nilIface := rfl
theorem errW_some (c : Int) : errW (some c) = .iface 0 (.int .i64 c) := rfl

theorem info3 : (Try.prog.info? 3).map (fun i => (i.zero, i.size, i.bytes)) = some (some (.int .i64 0), 1, 8) := by kernel_rfl
-- the values' own types

end Go.Proofs.Ytimkacnkmoofdaa.POrderEven
