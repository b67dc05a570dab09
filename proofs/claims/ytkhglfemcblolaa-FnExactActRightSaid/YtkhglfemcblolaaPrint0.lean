-- Printed by wip/myprint.py over the kit's print, in this session's own call.
import Derived.Test.YtkhglfemcblolaaProg
import Derived.Below
import Derived.Deep.Draws
import Derived.Deep.AppendLies
import Derived.Maps.AppendAt
import Derived.OwnWalk
import Derived.Laws.BytesArg
import Derived.Laws.MakeOwn
import Derived.Laws.OwnMore
import Derived.Deep.OwnRows
import Derived.Tactics
import Derived.Lib.ConvBytes
import Derived.Laws.Slices
import Derived.WalkKit
import Derived.KernelRfl
import Derived.RowKit3
import Derived.Deep.LoopGhost
import Derived.Deep.QuietTactic
import Derived.BigQuiet
import Derived.WideLaws
import Derived.Deep.DeepCutAuto
import Derived.Deep.CutBlock
import Derived.Deep.RegionHeld3
import Derived.Laws.Rows
import Derived.Lib.AppendStr
import Derived.ArgAppend
import Derived.Laws.IdiomCopy
import Derived.OrdersHeld
import Derived.Laws.BitsLemmas
import Derived.RowKit
import Derived.Test.YtkhglfemcblolaaSpecW
import Derived.Laws.Bits64
import Derived.Laws.Closers25b
import Derived.Shelf.Abstract
import Derived.Test.YtkhglfemcblolaaWWords
import Derived.Test.YtkhglfemcblolaaWLast
import Derived.Test.YtkhglfemcblolaaWTab
import Derived.Test.YtkhglfemcblolaaWFour
import Derived.Test.YtkhglfemcblolaaWQPut
import Derived.Test.YtkhglfemcblolaaWApart
import Derived.Test.YtkhglfemcblolaaWArr
import Derived.Test.YtkhglfemcblolaaWZeros
import Derived.Test.YtkhglfemcblolaaWFoot
import Derived.Test.YtkhglfemcblolaaWKept
import Derived.Test.YtkhglfemcblolaaWShare
import Derived.Test.YtkhglfemcblolaaWN
import Derived.Test.YtkhglfemcblolaaWFootNe
import Derived.Test.YtkhglfemcblolaaWAt
import Derived.Test.YtkhglfemcblolaaWEqStruct
import Derived.Test.YtkhglfemcblolaaWRepsOne
import Derived.Test.YtkhglfemcblolaaWInv
import Derived.Test.YtkhglfemcblolaaWInvWords
import Derived.Test.YtkhglfemcblolaaWGuard
import Derived.Test.YtkhglfemcblolaaWNEv
import Derived.Test.YtkhglfemcblolaaWMore
namespace Go.Proofs.Ytkhglfemcblolaa.Print
open Go.RowKit Go.Proofs.YtkhglfemcblolaaW.PrintWords Go.Proofs.YtkhglfemcblolaaW.PrintLast Go.Proofs.YtkhglfemcblolaaW.PrintMore
attribute [local go_sem] max2_int min2_int max_two min_two max_three min_three max_four min_four   -- for this text's walks alone
set_option linter.unusedVariables false
set_option linter.unusedSimpArgs false



def errW : Option Int → Value
  | none => .nilIface
  | some c => .iface 0 (.int .i64 c)
theorem errW_none : errW none = .nilIface := rfl
theorem errW_some (c : Int) : errW (some c) = .iface 0 (.int .i64 c) := rfl

theorem info2 : (Try.prog.info? 2).map (fun i => (i.zero, i.size, i.bytes)) = some (some (.int .i64 0), 1, 8) := by kernel_rfl
-- the values' own types

end Go.Proofs.Ytkhglfemcblolaa.Print
