-- CUT, by wip/slim.py of this claim's session, out of a text that print.sh printed: not print.sh's own text.
import Derived.Test.YtcbfopepfhfaoaaCutInv
import Derived.Test.YtcbfopepfhfaoaaCutFootNe
namespace Go.Proofs.YtcbfopepfhfaoaaW.PrintWords
open Go.RowKit
end Go.Proofs.YtcbfopepfhfaoaaW.PrintWords
namespace Go.Proofs.YtcbfopepfhfaoaaW.PrintLast
section
variable {ops : Array Oper} {a : Act} {o og : Oper} {g : Nat} {t : Tmp} {u : Bool}
end
end Go.Proofs.YtcbfopepfhfaoaaW.PrintLast
