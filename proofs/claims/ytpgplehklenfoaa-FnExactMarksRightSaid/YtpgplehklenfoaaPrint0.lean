-- Printed by wip/myprint.py over the kit's print, in this session's own call.
import Derived.Test.YtpgplehklenfoaaProg
import Derived.Below
import Derived.Deep.Draws
import Derived.Deep.AppendLies
import Derived.Maps.AppendAt
import Derived.OwnWalk
import Derived.Laws.BytesArg
import Derived.Laws.MakeOwn
import Derived.Laws.OwnMore
import Derived.Deep.OwnRows
import Derived.Tactics
import Derived.Lib.ConvBytes
import Derived.Laws.Slices
import Derived.WalkKit
import Derived.KernelRfl
import Derived.RowKit3
import Derived.Deep.LoopGhost
import Derived.Deep.QuietTactic
import Derived.BigQuiet
import Derived.WideLaws
import Derived.Deep.DeepCutAuto
import Derived.Deep.CutBlock
import Derived.Deep.RegionHeld3
import Derived.Laws.Rows
import Derived.Lib.AppendStr
import Derived.ArgAppend
import Derived.Laws.IdiomCopy
import Derived.OrdersHeld
import Derived.Laws.BitsLemmas
import Derived.RowKit
import Derived.Test.YtpgplehklenfoaaSpecW
import Derived.Laws.Bits64
import Derived.Laws.Closers25b
import Derived.Shelf.Abstract
import Derived.Test.YtpgplehklenfoaaWWords
import Derived.Test.YtpgplehklenfoaaWLast
import Derived.Test.YtpgplehklenfoaaWTab
import Derived.Test.YtpgplehklenfoaaWFour
import Derived.Test.YtpgplehklenfoaaWQPut
import Derived.Test.YtpgplehklenfoaaWApart
import Derived.Test.YtpgplehklenfoaaWArr
import Derived.Test.YtpgplehklenfoaaWZeros
import Derived.Test.YtpgplehklenfoaaWFoot
import Derived.Test.YtpgplehklenfoaaWKept
import Derived.Test.YtpgplehklenfoaaWShare
import Derived.Test.YtpgplehklenfoaaWN
import Derived.Test.YtpgplehklenfoaaWFootNe
import Derived.Test.YtpgplehklenfoaaWAt
import Derived.Test.YtpgplehklenfoaaWEqStruct
import Derived.Test.YtpgplehklenfoaaWRepsOne
import Derived.Test.YtpgplehklenfoaaWInv
import Derived.Test.YtpgplehklenfoaaWInvWords
import Derived.Test.YtpgplehklenfoaaWGuard
import Derived.Test.YtpgplehklenfoaaWNEv
import Derived.Test.YtpgplehklenfoaaWMore
namespace Go.Proofs.Ytpgplehklenfoaa.Print
open Go.RowKit Go.Proofs.YtpgplehklenfoaaW.PrintWords Go.Proofs.YtpgplehklenfoaaW.PrintLast Go.Proofs.YtpgplehklenfoaaW.PrintMore
attribute [local go_sem] max2_int min2_int max_two min_two max_three min_three max_four min_four   -- for this text's walks alone
set_option linter.unusedVariables false
set_option linter.unusedSimpArgs false



def errW : Option Int → Value
  | none => .nilIface
  | some c => .iface 0 (.int .i64 c)
theorem errW_none : errW none = .nilIface := rfl
theorem errW_some (c : Int) : errW (some c) = .iface 0 (.int .i64 c) := rfl

theorem info2 : (Try.prog.info? 2).map (fun i => (i.zero, i.size, i.bytes)) = some (some (.int .i64 0), 1, 8) := by kernel_rfl
-- the values' own types

end Go.Proofs.Ytpgplehklenfoaa.Print
