-- CUT, by wip/slim.py of this claim's session, out of a text that print.sh printed: not print.sh's own text.
import Derived.Test.YtepbkhgffjinjaaCutInv
import Derived.Test.YtepbkhgffjinjaaCutFootNe
namespace Go.Proofs.YtepbkhgffjinjaaW.PrintWords
open Go.RowKit
end Go.Proofs.YtepbkhgffjinjaaW.PrintWords
namespace Go.Proofs.YtepbkhgffjinjaaW.PrintLast
section
variable {ops : Array Oper} {a : Act} {o og : Oper} {g : Nat} {t : Tmp} {u : Bool}
end
end Go.Proofs.YtepbkhgffjinjaaW.PrintLast
