import Derived.Test.YtknghhlielhleaaDoorProg
import Derived.Below
import Derived.Deep.Draws
import Derived.Deep.AppendLies
import Derived.Maps.AppendAt
import Derived.OwnWalk
import Derived.Laws.BytesArg
import Derived.Laws.MakeOwn
import Derived.Laws.OwnMore
import Derived.Deep.OwnRows
import Derived.Tactics
import Derived.Lib.ConvBytes
import Derived.Laws.Slices
import Derived.WalkKit
import Derived.KernelRfl
import Derived.RowKit3
import Derived.Deep.LoopGhost
import Derived.Deep.QuietTactic
import Derived.BigQuiet
import Derived.WideLaws
import Derived.Deep.DeepCutAuto
import Derived.Deep.CutBlock
import Derived.Deep.RegionHeld3
import Derived.Laws.Rows
import Derived.Lib.AppendStr
import Derived.ArgAppend
import Derived.Laws.IdiomCopy
import Derived.OrdersHeld
import Derived.Laws.BitsLemmas
import Derived.RowKit
import Derived.WalkSpells
import Derived.Lib.SliceRun
import Derived.Test.YtknghhlielhleaaDoorMy
import Derived.Test.YtknghhlielhleaaDoorWWords
import Derived.Test.YtknghhlielhleaaDoorWLast
import Derived.Test.YtknghhlielhleaaDoorWTab
import Derived.Test.YtknghhlielhleaaDoorWFour
import Derived.Test.YtknghhlielhleaaDoorWQPut
import Derived.Test.YtknghhlielhleaaDoorWApart
import Derived.Test.YtknghhlielhleaaDoorWArr
import Derived.Test.YtknghhlielhleaaDoorWZeros
import Derived.Test.YtknghhlielhleaaDoorWFoot
import Derived.Test.YtknghhlielhleaaDoorWKept
import Derived.Test.YtknghhlielhleaaDoorWShare
import Derived.Test.YtknghhlielhleaaDoorWN
import Derived.Test.YtknghhlielhleaaDoorWFootNe
import Derived.Test.YtknghhlielhleaaDoorWAt
import Derived.Test.YtknghhlielhleaaDoorWEqStruct
import Derived.Test.YtknghhlielhleaaDoorWRepsOne
import Derived.Test.YtknghhlielhleaaDoorWInv
import Derived.Test.YtknghhlielhleaaDoorWInvWords
import Derived.Test.YtknghhlielhleaaDoorWGuard
import Derived.Test.YtknghhlielhleaaDoorWNEv
import Derived.Test.YtknghhlielhleaaDoorWMore
namespace Go.Proofs.YtknghhlielhleaaDoor.PSpellParses
open Go.RowKit Go.Proofs.YtknghhlielhleaaDoorM Go.Proofs.YtknghhlielhleaaDoorW.PrintWords Go.Proofs.YtknghhlielhleaaDoorW.PrintLast Go.Proofs.YtknghhlielhleaaDoorW.PrintMore
attribute [local go_sem] max2_int min2_int max_two min_two max_three min_three max_four min_four   -- for this text's walks alone
set_option linter.unusedVariables false
set_option linter.unusedSimpArgs false
def errW : Option Int → Value
  | none => .nilIface
  | some c => .iface 0 (.int .i64 c)
theorem errW_none : errW none = .nilIface := rfl
theorem errW_some (c : Int) : errW (some c) = .iface 0 (.int .i64 c) := rfl
theorem info4 : (Tryd.prog.info? 4).map (fun i => (i.zero, i.size, i.bytes)) = some (some (.bool false), 1, 1) := by kernel_rfl
theorem info9 : (Tryd.prog.info? 9).map (fun i => (i.zero, i.size, i.bytes)) = some (some (.string ⟨#[]⟩), 1, 16) := by kernel_rfl
end Go.Proofs.YtknghhlielhleaaDoor.PSpellParses
