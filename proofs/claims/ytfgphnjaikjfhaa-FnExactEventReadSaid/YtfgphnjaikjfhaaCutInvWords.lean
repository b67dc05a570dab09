-- CUT, by wip/slim.py of this claim's session, out of a text that print.sh printed: not print.sh's own text.
import Derived.Test.YtfgphnjaikjfhaaCutInv
import Derived.Test.YtfgphnjaikjfhaaCutFootNe
namespace Go.Proofs.YtfgphnjaikjfhaaW.PrintWords
open Go.RowKit
end Go.Proofs.YtfgphnjaikjfhaaW.PrintWords
namespace Go.Proofs.YtfgphnjaikjfhaaW.PrintLast
section
variable {ops : Array Oper} {a : Act} {o og : Oper} {g : Nat} {t : Tmp} {u : Bool}
end
end Go.Proofs.YtfgphnjaikjfhaaW.PrintLast
