-- Laid by wip/tools/mypr.py, a program of this place, over print.py.
import Derived.Test.YtipjmlcbbimfpaaDoorProg
import Derived.Below
import Derived.Deep.Draws
import Derived.Deep.AppendLies
import Derived.Maps.AppendAt
import Derived.OwnWalk
import Derived.Laws.BytesArg
import Derived.Laws.MakeOwn
import Derived.Laws.OwnMore
import Derived.Deep.OwnRows
import Derived.Tactics
import Derived.Lib.ConvBytes
import Derived.Laws.Slices
import Derived.WalkKit
import Derived.KernelRfl
import Derived.RowKit3
import Derived.Deep.LoopGhost
import Derived.Deep.QuietTactic
import Derived.BigQuiet
import Derived.WideLaws
import Derived.Deep.DeepCutAuto
import Derived.Deep.CutBlock
import Derived.Deep.RegionHeld3
import Derived.Laws.Rows
import Derived.Lib.AppendStr
import Derived.ArgAppend
import Derived.Laws.IdiomCopy
import Derived.OrdersHeld
import Derived.Laws.BitsLemmas
import Derived.RowKit
import Derived.Test.YtipjmlcbbimfpaaDoorExtLib
import Derived.Test.YtipjmlcbbimfpaaDoorWWords
import Derived.Test.YtipjmlcbbimfpaaDoorWLast
import Derived.Test.YtipjmlcbbimfpaaDoorWTab
import Derived.Test.YtipjmlcbbimfpaaDoorWFour
import Derived.Test.YtipjmlcbbimfpaaDoorWQPut
import Derived.Test.YtipjmlcbbimfpaaDoorWApart
import Derived.Test.YtipjmlcbbimfpaaDoorWArr
import Derived.Test.YtipjmlcbbimfpaaDoorWZeros
import Derived.Test.YtipjmlcbbimfpaaDoorWFoot
import Derived.Test.YtipjmlcbbimfpaaDoorWKept
import Derived.Test.YtipjmlcbbimfpaaDoorWShare
import Derived.Test.YtipjmlcbbimfpaaDoorWN
import Derived.Test.YtipjmlcbbimfpaaDoorWFootNe
import Derived.Test.YtipjmlcbbimfpaaDoorWAt
import Derived.Test.YtipjmlcbbimfpaaDoorWEqStruct
import Derived.Test.YtipjmlcbbimfpaaDoorWRepsOne
import Derived.Test.YtipjmlcbbimfpaaDoorWInv
import Derived.Test.YtipjmlcbbimfpaaDoorWInvWords
import Derived.Test.YtipjmlcbbimfpaaDoorWGuard
import Derived.Test.YtipjmlcbbimfpaaDoorWNEv
import Derived.Test.YtipjmlcbbimfpaaDoorWMore
namespace Go.Proofs.YtipjmlcbbimfpaaDoor.PFnExactIsDesk
open Go.Proofs.YtipjmlcbbimfpaaDoor
open Go.RowKit Go.Proofs.YtipjmlcbbimfpaaDoorW.PrintWords Go.Proofs.YtipjmlcbbimfpaaDoorW.PrintLast Go.Proofs.YtipjmlcbbimfpaaDoorW.PrintMore
attribute [local go_sem] max2_int min2_int max_two min_two max_three min_three max_four min_four   -- for this text's walks alone
set_option linter.unusedVariables false
set_option linter.unusedSimpArgs false



def errW : Option Int → Value
  | none => .nilIface
  | some c => .iface 0 (.int .i64 c)
theorem errW_none : errW none = .nilIface := rfl
theorem errW_some (c : Int) : errW (some c) = .iface 0 (.int .i64 c) := rfl

theorem info5 : (Tryd.prog.info? 5).map (fun i => (i.zero, i.size, i.bytes)) = some (some (.int .u8 0), 1, 1) := by kernel_rfl
-- the values' own types

end Go.Proofs.YtipjmlcbbimfpaaDoor.PFnExactIsDesk
