-- CUT, by wip/slim.py of this claim's session, out of a text that print.sh printed: not print.sh's own text.
import Derived.Test.YthpclkkkpponkaaCutInv
import Derived.Test.YthpclkkkpponkaaCutFootNe
namespace Go.Proofs.YthpclkkkpponkaaW.PrintWords
open Go.RowKit
end Go.Proofs.YthpclkkkpponkaaW.PrintWords
namespace Go.Proofs.YthpclkkkpponkaaW.PrintLast
section
variable {ops : Array Oper} {a : Act} {o og : Oper} {g : Nat} {t : Tmp} {u : Bool}
end
end Go.Proofs.YthpclkkkpponkaaW.PrintLast
