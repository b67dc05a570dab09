-- CUT, by wip/slim.py of this claim's session, out of a text that print.sh printed: not print.sh's own text.
import Derived.Test.YteimdbmfgojioaaCutInv
import Derived.Test.YteimdbmfgojioaaCutFootNe
namespace Go.Proofs.YteimdbmfgojioaaW.PrintWords
open Go.RowKit
end Go.Proofs.YteimdbmfgojioaaW.PrintWords
namespace Go.Proofs.YteimdbmfgojioaaW.PrintLast
section
variable {ops : Array Oper} {a : Act} {o og : Oper} {g : Nat} {t : Tmp} {u : Bool}
end
end Go.Proofs.YteimdbmfgojioaaW.PrintLast
