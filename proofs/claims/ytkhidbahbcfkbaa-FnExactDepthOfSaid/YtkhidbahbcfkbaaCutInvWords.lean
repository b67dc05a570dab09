-- CUT, by wip/slim.py of this claim's session, out of a text that print.sh printed: not print.sh's own text.
import Derived.Test.YtkhidbahbcfkbaaCutInv
import Derived.Test.YtkhidbahbcfkbaaCutFootNe
namespace Go.Proofs.YtkhidbahbcfkbaaW.PrintWords
open Go.RowKit
end Go.Proofs.YtkhidbahbcfkbaaW.PrintWords
namespace Go.Proofs.YtkhidbahbcfkbaaW.PrintLast
section
variable {ops : Array Oper} {a : Act} {o og : Oper} {g : Nat} {t : Tmp} {u : Bool}
end
end Go.Proofs.YtkhidbahbcfkbaaW.PrintLast
