/- The library's table of powers of ten. -/
import Derived.Test.YtebpaheghobpmaaDoorShelf
import Derived.Test.YtebpaheghobpmaaDoorWMore
import Derived.Test.YtebpaheghobpmaaDoorWLast
import Derived.Lib.AppendIntMem
import Derived.Lib.LaidTab
namespace Go.Proofs.YtebpaheghobpmaaDoor.Print
open Go.RowKit Go.Proofs.YtebpaheghobpmaaDoorW.PrintWords Go.Proofs.YtebpaheghobpmaaDoorW.PrintLast Go.Proofs.YtebpaheghobpmaaDoorW.PrintMore
set_option linter.unusedVariables false
set_option linter.unusedSimpArgs false

/-! The library's table of powers of ten: what it holds stays, whatever is made behind it. -/
def TabB (P : Program) (w : World) : Prop := Lib.TabBelow P w.heap.size w "internal/strconv.uint64pow10" .u64 Lib.pow10Tab
theorem TabB.step {P : Program} {w w1 : World} (h : TabB P w) (hb : Below w.heap.size w w1) : TabB P w1 := fun w' hb' => h w' (below_weaken hb hb.size hb')


end Go.Proofs.YtebpaheghobpmaaDoor.Print
