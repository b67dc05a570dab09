-- CUT, by wip/slim.py of this claim's session, out of a text that print.sh printed: not print.sh's own text.
import Derived.Test.YtfojdkfalmahiaaCutInv
import Derived.Test.YtfojdkfalmahiaaCutFootNe
namespace Go.Proofs.YtfojdkfalmahiaaW.PrintWords
open Go.RowKit
end Go.Proofs.YtfojdkfalmahiaaW.PrintWords
namespace Go.Proofs.YtfojdkfalmahiaaW.PrintLast
section
variable {ops : Array Oper} {a : Act} {o og : Oper} {g : Nat} {t : Tmp} {u : Bool}
end
end Go.Proofs.YtfojdkfalmahiaaW.PrintLast
