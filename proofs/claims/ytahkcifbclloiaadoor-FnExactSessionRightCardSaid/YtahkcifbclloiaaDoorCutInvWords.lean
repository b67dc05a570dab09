-- CUT, by wip/slim.py of this claim's session, out of a text that print.sh printed: not print.sh's own text.
import Derived.Test.YtahkcifbclloiaaDoorCutInv
import Derived.Test.YtahkcifbclloiaaDoorCutFootNe
namespace Go.Proofs.YtahkcifbclloiaaDoorW.PrintWords
open Go.RowKit
end Go.Proofs.YtahkcifbclloiaaDoorW.PrintWords
namespace Go.Proofs.YtahkcifbclloiaaDoorW.PrintLast
section
variable {ops : Array Oper} {a : Act} {o og : Oper} {g : Nat} {t : Tmp} {u : Bool}
end
end Go.Proofs.YtahkcifbclloiaaDoorW.PrintLast
