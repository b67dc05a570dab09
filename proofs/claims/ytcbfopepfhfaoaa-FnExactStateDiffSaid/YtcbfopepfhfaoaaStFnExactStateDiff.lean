-- Printed by wip/myprint.py over the kit's print, in this session's own call.
import Derived.Test.YtcbfopepfhfaoaaPrint10
import Derived.Test.YtcbfopepfhfaoaaOpn
namespace Go.Proofs.Ytcbfopepfhfaoaa.Print
open Go.RowKit Go.Proofs.YtcbfopepfhfaoaaW.PrintWords Go.Proofs.YtcbfopepfhfaoaaW.PrintLast
/-- THE ONE PURE STATEMENT of laws_FnExactStateDiff. -/
def laws_FnExactStateDiff.Pure : Prop := ∀ (l0 : List (S49)) (l1 : List (S49)), (okList ok49) l0 → (okList ok49) l1 → ∃ k, laws_FnExactStateDiff.f k l0 l1 = some true
end Go.Proofs.Ytcbfopepfhfaoaa.Print
