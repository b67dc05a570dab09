-- CUT, by wip/slim.py of this claim's session, out of a text that print.sh printed: not print.sh's own text.
import Derived.Test.YtpkeddplfnannaaCutInv
import Derived.Test.YtpkeddplfnannaaCutFootNe
namespace Go.Proofs.YtpkeddplfnannaaW.PrintWords
open Go.RowKit
end Go.Proofs.YtpkeddplfnannaaW.PrintWords
namespace Go.Proofs.YtpkeddplfnannaaW.PrintLast
section
variable {ops : Array Oper} {a : Act} {o og : Oper} {g : Nat} {t : Tmp} {u : Bool}
end
end Go.Proofs.YtpkeddplfnannaaW.PrintLast
