-- Printed by wip/myprint.py over the kit's print, in this session's own call.
import Derived.Test.YtbhinaopghfnjaaDoorProg
import Derived.Below
import Derived.Deep.Draws
import Derived.Deep.AppendLies
import Derived.Maps.AppendAt
import Derived.OwnWalk
import Derived.Laws.BytesArg
import Derived.Laws.MakeOwn
import Derived.Laws.OwnMore
import Derived.Deep.OwnRows
import Derived.Tactics
import Derived.Lib.ConvBytes
import Derived.Laws.Slices
import Derived.WalkKit
import Derived.KernelRfl
import Derived.RowKit3
import Derived.Deep.LoopGhost
import Derived.Deep.QuietTactic
import Derived.BigQuiet
import Derived.WideLaws
import Derived.Deep.DeepCutAuto
import Derived.Deep.CutBlock
import Derived.Deep.RegionHeld3
import Derived.Laws.Rows
import Derived.Lib.AppendStr
import Derived.ArgAppend
import Derived.Laws.IdiomCopy
import Derived.OrdersHeld
import Derived.Laws.BitsLemmas
import Derived.RowKit
import Derived.Test.YtbhinaopghfnjaaDoorTabW
import Derived.Laws.Bits64
import Derived.Laws.Closers25b
import Derived.Shelf.Abstract
import Derived.Test.YtbhinaopghfnjaaDoorWWords
import Derived.Test.YtbhinaopghfnjaaDoorWLast
import Derived.Test.YtbhinaopghfnjaaDoorWTab
import Derived.Test.YtbhinaopghfnjaaDoorWFour
import Derived.Test.YtbhinaopghfnjaaDoorWQPut
import Derived.Test.YtbhinaopghfnjaaDoorWApart
import Derived.Test.YtbhinaopghfnjaaDoorWArr
import Derived.Test.YtbhinaopghfnjaaDoorWZeros
import Derived.Test.YtbhinaopghfnjaaDoorWFoot
import Derived.Test.YtbhinaopghfnjaaDoorWKept
import Derived.Test.YtbhinaopghfnjaaDoorWShare
import Derived.Test.YtbhinaopghfnjaaDoorWN
import Derived.Test.YtbhinaopghfnjaaDoorWFootNe
import Derived.Test.YtbhinaopghfnjaaDoorWAt
import Derived.Test.YtbhinaopghfnjaaDoorWEqStruct
import Derived.Test.YtbhinaopghfnjaaDoorWRepsOne
import Derived.Test.YtbhinaopghfnjaaDoorWInv
import Derived.Test.YtbhinaopghfnjaaDoorWInvWords
import Derived.Test.YtbhinaopghfnjaaDoorWGuard
import Derived.Test.YtbhinaopghfnjaaDoorWNEv
import Derived.Test.YtbhinaopghfnjaaDoorWMore
namespace Go.Proofs.YtbhinaopghfnjaaDoor.Print
open Go.RowKit Go.Proofs.YtbhinaopghfnjaaDoorW.PrintWords Go.Proofs.YtbhinaopghfnjaaDoorW.PrintLast Go.Proofs.YtbhinaopghfnjaaDoorW.PrintMore
attribute [local go_sem] max2_int min2_int max_two min_two max_three min_three max_four min_four   -- for this text's walks alone
set_option linter.unusedVariables false
set_option linter.unusedSimpArgs false



def errW : Option Int → Value
  | none => .nilIface
  | some c => .iface 0 (.int .i64 c)
theorem errW_none : errW none = .nilIface := rfl
theorem errW_some (c : Int) : errW (some c) = .iface 0 (.int .i64 c) := rfl

theorem info5 : (Tryd.prog.info? 5).map (fun i => (i.zero, i.size, i.bytes)) = some (some (.int .u8 0), 1, 1) := by kernel_rfl
-- the values' own types

end Go.Proofs.YtbhinaopghfnjaaDoor.Print
