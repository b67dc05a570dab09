/- The library's table of powers of ten. -/
import Derived.Test.YtbhinaopghfnjaaDoorShelf
import Derived.Test.YtbhinaopghfnjaaDoorWMore
import Derived.Test.YtbhinaopghfnjaaDoorWLast
import Derived.Lib.AppendIntMem
import Derived.Lib.LaidTab
namespace Go.Proofs.YtbhinaopghfnjaaDoor.Print
open Go.RowKit Go.Proofs.YtbhinaopghfnjaaDoorW.PrintWords Go.Proofs.YtbhinaopghfnjaaDoorW.PrintLast Go.Proofs.YtbhinaopghfnjaaDoorW.PrintMore
set_option linter.unusedVariables false
set_option linter.unusedSimpArgs false

/-! The library's table of powers of ten: what it holds stays, whatever is made behind it. -/
def TabB (P : Program) (w : World) : Prop := Lib.TabBelow P w.heap.size w "internal/strconv.uint64pow10" .u64 Lib.pow10Tab
theorem TabB.step {P : Program} {w w1 : World} (h : TabB P w) (hb : Below w.heap.size w w1) : TabB P w1 := fun w' hb' => h w' (below_weaken hb hb.size hb')


end Go.Proofs.YtbhinaopghfnjaaDoor.Print
