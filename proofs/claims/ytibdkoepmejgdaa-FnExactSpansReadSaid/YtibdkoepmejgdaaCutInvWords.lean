-- CUT, by wip/slim.py of this claim's session, out of a text that print.sh printed: not print.sh's own text.
import Derived.Test.YtibdkoepmejgdaaCutInv
import Derived.Test.YtibdkoepmejgdaaCutFootNe
namespace Go.Proofs.YtibdkoepmejgdaaW.PrintWords
open Go.RowKit
end Go.Proofs.YtibdkoepmejgdaaW.PrintWords
namespace Go.Proofs.YtibdkoepmejgdaaW.PrintLast
section
variable {ops : Array Oper} {a : Act} {o og : Oper} {g : Nat} {t : Tmp} {u : Bool}
end
end Go.Proofs.YtibdkoepmejgdaaW.PrintLast
