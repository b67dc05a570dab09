-- Printed by wip/myprint.py over the kit's print, in this session's own call.
import Derived.Test.YtfgphnjaikjfhaaProg
import Derived.Below
import Derived.Deep.Draws
import Derived.Deep.AppendLies
import Derived.Maps.AppendAt
import Derived.OwnWalk
import Derived.Laws.BytesArg
import Derived.Laws.MakeOwn
import Derived.Laws.OwnMore
import Derived.Deep.OwnRows
import Derived.Tactics
import Derived.Lib.ConvBytes
import Derived.Laws.Slices
import Derived.WalkKit
import Derived.KernelRfl
import Derived.RowKit3
import Derived.Deep.LoopGhost
import Derived.Deep.QuietTactic
import Derived.BigQuiet
import Derived.WideLaws
import Derived.Deep.DeepCutAuto
import Derived.Deep.CutBlock
import Derived.Deep.RegionHeld3
import Derived.Laws.Rows
import Derived.Lib.AppendStr
import Derived.ArgAppend
import Derived.Laws.IdiomCopy
import Derived.OrdersHeld
import Derived.Laws.BitsLemmas
import Derived.RowKit
import Derived.Test.YtfgphnjaikjfhaaCellW
import Derived.Test.YtfgphnjaikjfhaaDW
import Derived.Test.YtfgphnjaikjfhaaStrW
import Derived.Laws.Bits64
import Derived.Laws.Closers25b
import Derived.Shelf.Abstract
import Derived.Test.YtfgphnjaikjfhaaCutWords
import Derived.Test.YtfgphnjaikjfhaaCutLast
import Derived.Test.YtfgphnjaikjfhaaCutTab
import Derived.Test.YtfgphnjaikjfhaaCutFour
import Derived.Test.YtfgphnjaikjfhaaCutQPut
import Derived.Test.YtfgphnjaikjfhaaCutApart
import Derived.Test.YtfgphnjaikjfhaaCutArr
import Derived.Test.YtfgphnjaikjfhaaCutZeros
import Derived.Test.YtfgphnjaikjfhaaCutFoot
import Derived.Test.YtfgphnjaikjfhaaCutKept
import Derived.Test.YtfgphnjaikjfhaaCutShare
import Derived.Test.YtfgphnjaikjfhaaCutN
import Derived.Test.YtfgphnjaikjfhaaCutFootNe
import Derived.Test.YtfgphnjaikjfhaaCutAt
import Derived.Test.YtfgphnjaikjfhaaCutEqStruct
import Derived.Test.YtfgphnjaikjfhaaCutRepsOne
import Derived.Test.YtfgphnjaikjfhaaCutInv
import Derived.Test.YtfgphnjaikjfhaaCutInvWords
import Derived.Test.YtfgphnjaikjfhaaCutGuard
import Derived.Test.YtfgphnjaikjfhaaCutNEv
import Derived.Test.YtfgphnjaikjfhaaCutMore
namespace Go.Proofs.Ytfgphnjaikjfhaa.Print
open Go.RowKit Go.Proofs.YtfgphnjaikjfhaaW.PrintWords Go.Proofs.YtfgphnjaikjfhaaW.PrintLast Go.Proofs.YtfgphnjaikjfhaaW.PrintMore
attribute [local go_sem] max2_int min2_int max_two min_two max_three min_three max_four min_four   -- for this text's walks alone
set_option linter.unusedVariables false
set_option linter.unusedSimpArgs false



def errW : Option Int → Value
  | none => .nilIface
  | some c => .iface 0 (.int .i64 c)
theorem errW_none : errW none = .nilIface := rfl
theorem errW_some (c : Int) : errW (some c) = .iface 0 (.int .i64 c) := rfl

theorem info2 : (Try.prog.info? 2).map (fun i => (i.zero, i.size, i.bytes)) = some (some (.int .i64 0), 1, 8) := by kernel_rfl
theorem info5 : (Try.prog.info? 5).map (fun i => (i.zero, i.size, i.bytes)) = some (some (.int .u8 0), 1, 1) := by kernel_rfl
-- the values' own types

end Go.Proofs.Ytfgphnjaikjfhaa.Print
